/- What the laws' copying functions come to (written by gD2.py, own work). -/
import Derived.Test.YtdjfehjddfbbjaaGreatDoorD1
set_option linter.unusedVariables false
set_option linter.unusedSimpArgs false
namespace Go.Proofs.YtdjfehjddfbbjaaGreatDoor
open Go Go.RowKit Mk
theorem own_rds {α : Type} {d : Kd α} {e : TypeId} {B : Nat} {w : World} {fp : List Nat} {A : Option Addr} {n c : Nat} {xs : List α} (h : OwnS d e B w fp (.slice A n c) xs) : RdS d w A c xs := by
  obtain ⟨A', c', h1, h2⟩ := h.form
  injection h1 with a b c
  subst a; subst c; exact h2
theorem nblk_alloc3 (w : World) (o : Obj) : (w.alloc o).heap.size = w.heap.size + 1 := Deep.nblk_alloc w o
theorem take_push {α : Type} (xs : List α) (k : Nat) (x : α) (hk : k < xs.length) (hx : xs[k] = x) : xs.take k ++ [x] = xs.take (k + 1) := by
  rw [List.take_succ_eq_append_getElem hk, hx]
theorem ownOp (B : Nat) (w : World) (x : SOp) : kOp.Own B w [] [.int .i64 x.Kind, .int .i64 x.Vol, .int .i64 x.At, .int .i64 x.Value] x := ⟨[], ([] ++ ([] ++ [])), _, _, rfl, rfl, ⟨rfl, rfl⟩, ⟨[], ([] ++ []), _, _, rfl, rfl, ⟨rfl, rfl⟩, ⟨[], [], _, _, rfl, rfl, ⟨rfl, rfl⟩, ⟨rfl, rfl⟩⟩⟩⟩
set_option maxRecDepth 100000 in
theorem toOp_c (x : SOp) (w : World) : Calls Tryz.prog 57 #[.agg #[.int .i64 x.Kind, .int .i64 x.Vol, .int .i64 x.At, .int .i64 x.Value]] w fun e w' => e = .returned (.agg #[.int .i64 x.Kind, .int .i64 x.Vol, .int .i64 x.At, .int .i64 x.Value]) ∧ Below w.heap.size w w' := by
  go_enter Tryz.func57, Tryz.ntmps57
  go_wp2_with fail
  exact bodyPost_ret (v := .agg #[.int .i64 x.Kind, .int .i64 x.Vol, .int .i64 x.At, .int .i64 x.Value]) (by simp [results, Tryz.results57, go_sem]) rfl ⟨rfl, by repeat (first | (with_reducible assumption) | (with_reducible exact Below.refl _ _) | (with_reducible refine below_set ?_ (by dsimp only; omega) _) | (with_reducible apply below_alloc) | (with_reducible refine below_trans ?_ (by assumption)))⟩
theorem ownEntry (B : Nat) (w : World) (x : SEntry) : kEntry.Own B w [] [.int .i64 x.Client, .int .i64 x.Seq, .int .i64 x.Op.Kind, .int .i64 x.Op.Vol, .int .i64 x.Op.At, .int .i64 x.Op.Value] x := ⟨[], ([] ++ ([] ++ ([] ++ ([] ++ [])))), _, _, rfl, rfl, ⟨rfl, rfl⟩, ⟨[], ([] ++ ([] ++ ([] ++ []))), _, _, rfl, rfl, ⟨rfl, rfl⟩, ⟨[], ([] ++ ([] ++ [])), _, _, rfl, rfl, ⟨rfl, rfl⟩, ⟨[], ([] ++ []), _, _, rfl, rfl, ⟨rfl, rfl⟩, ⟨[], [], _, _, rfl, rfl, ⟨rfl, rfl⟩, ⟨rfl, rfl⟩⟩⟩⟩⟩⟩
set_option maxRecDepth 100000 in
theorem toEntry_c (x : SEntry) (w : World) : Calls Tryz.prog 32 #[.agg #[.int .i64 x.Client, .int .i64 x.Seq, .int .i64 x.Op.Kind, .int .i64 x.Op.Vol, .int .i64 x.Op.At, .int .i64 x.Op.Value]] w fun e w' => e = .returned (.agg #[.int .i64 x.Client, .int .i64 x.Seq, .int .i64 x.Op.Kind, .int .i64 x.Op.Vol, .int .i64 x.Op.At, .int .i64 x.Op.Value]) ∧ Below w.heap.size w w' := by
  go_enter Tryz.func32, Tryz.ntmps32
  go_wp2_with (first | (go_at_call 57; refine (toOp_c _ _).mono ?_; rintro e w1 ⟨rfl, hb1⟩; have y1 := bcell hb1))
  exact bodyPost_ret (v := .agg #[.int .i64 x.Client, .int .i64 x.Seq, .int .i64 x.Op.Kind, .int .i64 x.Op.Vol, .int .i64 x.Op.At, .int .i64 x.Op.Value]) (by simp [results, Tryz.results32, go_sem, y1]) rfl ⟨rfl, by repeat (first | (with_reducible assumption) | (with_reducible exact Below.refl _ _) | (with_reducible refine below_set ?_ (by dsimp only; omega) _) | (with_reducible apply below_alloc) | (with_reducible refine below_trans ?_ (by assumption)))⟩
set_option maxRecDepth 100000 in
set_option maxHeartbeats 1000000 in
theorem toEntryS_c (xs : List SEntry) (A : Option Addr) (c : Nat) (w : World) (h : RdS kEntry w A c xs) (hn : xs.length ≤ 1048576) :
    Calls Tryz.prog 17 #[.slice A xs.length c] w fun e w' => ∃ (G : Nat) (fp : List Nat), e = .returned (.slice (some ⟨G, 0, none⟩) xs.length xs.length) ∧ fp.Nodup ∧ OwnS kEntry 75 w.heap.size w' fp (.slice (some ⟨G, 0, none⟩) xs.length xs.length) xs ∧ Below w.heap.size w w' := by
  have hlen : xs.length ≤ 1048576 := by omega
  go_enter Tryz.func17, Tryz.ntmps17
  go_wp2_with (refine wpList_make 33 75 6 _ _ rfl rfl xs.length rfl rfl (by kernel_rfl) (by kernel_rfl) (by omega) ?_; intro Z hZ)
  have hst := Half.start (d := kEntry) (e := 75) Z hZ (by unfold maxLen; omega) (Nat.le_refl w.heap.size)
  go_loopw [4] (fun i W => ∃ k : Nat, k ≤ xs.length ∧ i = .int .i64 k ∧ Half kEntry 75 w.heap.size W w.heap.size xs.length (xs.take k) ∧ Below w.heap.size w W) (fun i _ => xs.length - (intOf i).toNat)
  case atStart => exact ⟨0, Nat.zero_le _, rfl, hst, by repeat (first | assumption | exact Below.refl _ _ | (refine below_trans ?_ (by assumption)) | apply below_alloc | apply below_drewN | apply Below.drew)⟩
  case round =>
    obtain ⟨k, hk, rfl, hh, hb⟩ := hrel
    clear hst hZ
    by_cases hlt : k < xs.length
    · have hlt' : (k : Int) < (xs.length : Int) := by omega
      obtain ⟨a, ea, hx⟩ := (h.below hb).at_ hlt
      subst ea
      simp only [show kEntry.sz = 6 from rfl] at hx
      skip
      generalize hy : xs[k] = x at hx
      have hq := atEntry hx
      obtain ⟨q0, q1, q2, q3, q4, q5⟩ := hq
      go_wp2_with (go_at_call 32; refine (toEntry_c x _).mono ?_; rintro e w1 ⟨rfl, hb1⟩; obtain ⟨⟨u0, hu0⟩, hf0⟩ := (hh.below hb1).there (k := k) (j := 0) hlt (by decide); obtain ⟨⟨u1, hu1⟩, hf1⟩ := (hh.below hb1).there (k := k) (j := 1) hlt (by decide); obtain ⟨⟨u2, hu2⟩, hf2⟩ := (hh.below hb1).there (k := k) (j := 2) hlt (by decide); obtain ⟨⟨u3, hu3⟩, hf3⟩ := (hh.below hb1).there (k := k) (j := 3) hlt (by decide); obtain ⟨⟨u4, hu4⟩, hf4⟩ := (hh.below hb1).there (k := k) (j := 4) hlt (by decide); obtain ⟨⟨u5, hu5⟩, hf5⟩ := (hh.below hb1).there (k := k) (j := 5) hlt (by decide); simp only [show kEntry.sz = 6 from rfl, Nat.mul_one, Nat.add_zero] at hu0 hf0 hu1 hf1 hu2 hf2 hu3 hf3 hu4 hf4 hu5 hf5; have HP := Lib.hid (hh.push (fp := []) (cs := [.int .i64 x.Client, .int .i64 x.Seq, .int .i64 x.Op.Kind, .int .i64 x.Op.Vol, .int .i64 x.Op.At, .int .i64 x.Op.Value]) (y := x) (by rw [List.length_take]; omega) hb1 (ownEntry _ _ x) List.nodup_nil); have HB := Lib.hid (below_sets (g := w.heap.size) (Nat.le_refl _) [.int .i64 x.Client, .int .i64 x.Seq, .int .i64 x.Op.Kind, .int .i64 x.Op.Vol, .int .i64 x.Op.At, .int .i64 x.Op.Value] (k * 6) w1 (below_trans hb hb1)))
      have hp := HP.out
      rw [List.length_take, Nat.min_eq_left hk, take_push xs k x hlt hy] at hp
      simp only [show kEntry.sz = 6 from rfl, Nat.mul_one, Nat.add_zero, World.setCells, Nat.add_assoc, Nat.reduceAdd] at hp
      have hB := HB.out
      simp only [show kEntry.sz = 6 from rfl, Nat.mul_one, Nat.add_zero, World.setCells, Nat.add_assoc, Nat.reduceAdd] at hB
      exact ⟨⟨k + 1, hlt, by go_num, hp, hB⟩, by simp [intOf]; omega⟩
    · have hk' : k = xs.length := by omega
      subst hk'
      rw [List.take_length] at hh
      go_wp2
      go_ret
      obtain ⟨fp, h1, h2⟩ := hh.done rfl
      exact ⟨_, fp, rfl, h1, h2, hb⟩
set_option maxRecDepth 100000 in
set_option maxHeartbeats 1000000 in
theorem toInt64S_c (xs : List Int) (A : Option Addr) (c : Nat) (w : World) (h : RdS kInt w A c xs) (hn : xs.length ≤ 1048576) :
    Calls Tryz.prog 54 #[.slice A xs.length c] w fun e w' => ∃ (G : Nat) (fp : List Nat), e = .returned (.slice (some ⟨G, 0, none⟩) xs.length xs.length) ∧ fp.Nodup ∧ OwnS kInt 2 w.heap.size w' fp (.slice (some ⟨G, 0, none⟩) xs.length xs.length) xs ∧ Below w.heap.size w w' := by
  have hlen : xs.length ≤ 1048576 := by omega
  go_enter Tryz.func54, Tryz.ntmps54
  go_wp2_with (refine wpList_make 55 2 1 _ _ rfl rfl xs.length rfl rfl (by kernel_rfl) (by kernel_rfl) (by omega) ?_; intro Z hZ)
  have hst := Half.start (d := kInt) (e := 2) Z hZ (by unfold maxLen; omega) (Nat.le_refl w.heap.size)
  go_loopw [4] (fun i W => ∃ k : Nat, k ≤ xs.length ∧ i = .int .i64 k ∧ Half kInt 2 w.heap.size W w.heap.size xs.length (xs.take k) ∧ Below w.heap.size w W) (fun i _ => xs.length - (intOf i).toNat)
  case atStart => exact ⟨0, Nat.zero_le _, rfl, hst, by repeat (first | assumption | exact Below.refl _ _ | (refine below_trans ?_ (by assumption)) | apply below_alloc | apply below_drewN | apply Below.drew)⟩
  case round =>
    obtain ⟨k, hk, rfl, hh, hb⟩ := hrel
    clear hst hZ
    by_cases hlt : k < xs.length
    · have hlt' : (k : Int) < (xs.length : Int) := by omega
      obtain ⟨a, ea, hx⟩ := (h.below hb).at_ hlt
      subst ea
      simp only [show kInt.sz = 1 from rfl, Nat.mul_one] at hx
      obtain ⟨cs, hl, hcs⟩ := hx
      obtain rfl := hcs
      have q0 := hl.c0
      generalize hy : xs[k] = x at q0
      clear hl
      obtain ⟨⟨u0, hu0⟩, hf0⟩ := hh.there (k := k) (j := 0) hlt (by decide)
      simp only [show kInt.sz = 1 from rfl, Nat.mul_one, Nat.add_zero] at hu0 hf0
      have hp := hh.push (fp := []) (cs := [Value.int .i64 x]) (y := x) (by rw [List.length_take]; omega) (Below.refl _ _) ⟨rfl, rfl⟩ List.nodup_nil
      rw [List.length_take, Nat.min_eq_left hk, take_push xs k x hlt hy] at hp
      simp only [show kInt.sz = 1 from rfl, Nat.mul_one, Nat.add_zero, World.setCells, Nat.add_assoc, Nat.reduceAdd] at hp
      have HP := Lib.hid hp
      have HB := Lib.hid (below_set hb (p := ⟨w.heap.size, k, none⟩) (Nat.le_refl _) (Value.int .i64 x))
      clear hp hh
      go_wp2
      exact ⟨⟨k + 1, hlt, by go_num, HP.out, HB.out⟩, by simp [intOf]; omega⟩
    · have hk' : k = xs.length := by omega
      subst hk'
      rw [List.take_length] at hh
      go_wp2
      go_ret
      obtain ⟨fp, h1, h2⟩ := hh.done rfl
      exact ⟨_, fp, rfl, h1, h2, hb⟩
set_option maxRecDepth 100000 in
set_option maxHeartbeats 1000000 in
theorem toBoolS_c (xs : List Bool) (A : Option Addr) (c : Nat) (w : World) (h : RdS kBool w A c xs) (hn : xs.length ≤ 1048576) :
    Calls Tryz.prog 55 #[.slice A xs.length c] w fun e w' => ∃ (G : Nat) (fp : List Nat), e = .returned (.slice (some ⟨G, 0, none⟩) xs.length xs.length) ∧ fp.Nodup ∧ OwnS kBool 4 w.heap.size w' fp (.slice (some ⟨G, 0, none⟩) xs.length xs.length) xs ∧ Below w.heap.size w w' := by
  have hlen : xs.length ≤ 1048576 := by omega
  go_enter Tryz.func55, Tryz.ntmps55
  go_wp2_with (refine wpList_make 56 4 1 _ _ rfl rfl xs.length rfl rfl (by kernel_rfl) (by kernel_rfl) (by omega) ?_; intro Z hZ)
  have hst := Half.start (d := kBool) (e := 4) Z hZ (by unfold maxLen; omega) (Nat.le_refl w.heap.size)
  go_loopw [4] (fun i W => ∃ k : Nat, k ≤ xs.length ∧ i = .int .i64 k ∧ Half kBool 4 w.heap.size W w.heap.size xs.length (xs.take k) ∧ Below w.heap.size w W) (fun i _ => xs.length - (intOf i).toNat)
  case atStart => exact ⟨0, Nat.zero_le _, rfl, hst, by repeat (first | assumption | exact Below.refl _ _ | (refine below_trans ?_ (by assumption)) | apply below_alloc | apply below_drewN | apply Below.drew)⟩
  case round =>
    obtain ⟨k, hk, rfl, hh, hb⟩ := hrel
    clear hst hZ
    by_cases hlt : k < xs.length
    · have hlt' : (k : Int) < (xs.length : Int) := by omega
      obtain ⟨a, ea, hx⟩ := (h.below hb).at_ hlt
      subst ea
      simp only [show kBool.sz = 1 from rfl, Nat.mul_one] at hx
      obtain ⟨cs, hl, hcs⟩ := hx
      obtain rfl := hcs
      have q0 := hl.c0
      generalize hy : xs[k] = x at q0
      clear hl
      obtain ⟨⟨u0, hu0⟩, hf0⟩ := hh.there (k := k) (j := 0) hlt (by decide)
      simp only [show kBool.sz = 1 from rfl, Nat.mul_one, Nat.add_zero] at hu0 hf0
      have hp := hh.push (fp := []) (cs := [Value.bool x]) (y := x) (by rw [List.length_take]; omega) (Below.refl _ _) ⟨rfl, rfl⟩ List.nodup_nil
      rw [List.length_take, Nat.min_eq_left hk, take_push xs k x hlt hy] at hp
      simp only [show kBool.sz = 1 from rfl, Nat.mul_one, Nat.add_zero, World.setCells, Nat.add_assoc, Nat.reduceAdd] at hp
      have HP := Lib.hid hp
      have HB := Lib.hid (below_set hb (p := ⟨w.heap.size, k, none⟩) (Nat.le_refl _) (Value.bool x))
      clear hp hh
      go_wp2
      exact ⟨⟨k + 1, hlt, by go_num, HP.out, HB.out⟩, by simp [intOf]; omega⟩
    · have hk' : k = xs.length := by omega
      subst hk'
      rw [List.take_length] at hh
      go_wp2
      go_ret
      obtain ⟨fp, h1, h2⟩ := hh.done rfl
      exact ⟨_, fp, rfl, h1, h2, hb⟩
set_option maxRecDepth 100000 in
set_option maxHeartbeats 1000000 in
theorem toDoer_c (x : SDoer) (A2 : Option Addr) (c2 : Nat) (w : World) (h2 : RdS kEntry w A2 c2 x.Log) (hn : totDoer x ≤ 1048576) :
    Calls Tryz.prog 73 #[.agg #[.bool x.Known, .int .i64 x.Last, .slice A2 x.Log.length c2, .int .i64 x.Commit]] w fun e w' => ∃ G2 : Nat, e = .returned (.agg #[.bool x.Known, .int .i64 x.Last, .slice (some ⟨G2, 0, none⟩) x.Log.length x.Log.length, .int .i64 x.Commit]) ∧ (∃ fp, fp.Nodup ∧ kDoer.Own w.heap.size w' fp [.bool x.Known, .int .i64 x.Last, .slice (some ⟨G2, 0, none⟩) x.Log.length x.Log.length, .int .i64 x.Commit] x) ∧ Below w.heap.size w w' := by
  unfold totDoer at hn
  go_enter Tryz.func73, Tryz.ntmps73
  go_wp2_with (first | (go_at_call 17; refine (toEntryS_c _ _ _ _ (h2.below (by repeat (first | (with_reducible assumption) | (with_reducible exact Below.refl _ _) | (with_reducible refine below_set ?_ (by dsimp only; omega) _) | (with_reducible apply below_alloc) | (with_reducible refine below_trans ?_ (by assumption))))) (by omega)).mono ?_; rintro e w1 ⟨G2, fp2, rfl, nd2, ow2, hb1⟩; have y1 := bcell hb1; have z1 : w.heap.size + 3 ≤ w1.heap.size := (by have := hb1.size; simp only [Deep.nblk_setCell, nblk_alloc3] at this; omega); have ea1 : w.heap.size < w1.heap.size := (by omega); have eb1 : w.heap.size + 1 < w1.heap.size := (by omega); have ec1 : w.heap.size + 1 + 1 < w1.heap.size := (by omega); have o2 := ow2.lift (B' := w.heap.size + 3) (fun b hb => by have := (ow2.in b hb).1; simp only [Deep.nblk_setCell, nblk_alloc3] at this; omega); clear ow2))
  refine bodyPost_ret (v := .agg #[.bool x.Known, .int .i64 x.Last, .slice (some ⟨G2, 0, none⟩) x.Log.length x.Log.length, .int .i64 x.Commit]) (by simp [results, Tryz.results73, go_sem, y1, ea1, eb1, ec1]) rfl ⟨G2, rfl, ?_, by repeat (first | (with_reducible assumption) | (with_reducible exact Below.refl _ _) | (with_reducible refine below_set ?_ (by dsimp only; omega) _) | (with_reducible apply below_alloc) | (with_reducible refine below_trans ?_ (by assumption)))⟩
  have b2 : ∀ b ∈ fp2, w.heap.size + 3 ≤ b ∧ b < w1.heap.size := fun b hb => (o2.in b hb)
  refine ⟨([] ++ ([] ++ (fp2 ++ []))), ?_, ?_⟩
  rotate_left
  · exact ⟨[], ([] ++ (fp2 ++ [])), _, _, rfl, rfl, ⟨rfl, rfl⟩, ⟨[], (fp2 ++ []), _, _, rfl, rfl, ⟨rfl, rfl⟩, ⟨fp2, [], _, _, rfl, rfl, ⟨_, rfl, o2.past (lo := w.heap.size + 3) (lo2 := w.heap.size) (by repeat (first | (with_reducible exact Past.refl _ _) | (with_reducible refine Past.set ?_ (by omega) _) | (with_reducible refine Past.below ?_ (by assumption)))) (by omega) (by omega)⟩, ⟨rfl, rfl⟩⟩⟩⟩
  · (try simp only [List.nil_append, List.append_nil])
    exact nd2
set_option maxRecDepth 100000 in
set_option maxHeartbeats 1000000 in
theorem toDoerS_c (xs : List SDoer) (A : Option Addr) (c : Nat) (w : World) (h : RdS kDoer w A c xs) (hn : totL totDoer xs ≤ 1048576) :
    Calls Tryz.prog 56 #[.slice A xs.length c] w fun e w' => ∃ (G : Nat) (fp : List Nat), e = .returned (.slice (some ⟨G, 0, none⟩) xs.length xs.length) ∧ fp.Nodup ∧ OwnS kDoer 100 w.heap.size w' fp (.slice (some ⟨G, 0, none⟩) xs.length xs.length) xs ∧ Below w.heap.size w w' := by
  have hlen : xs.length ≤ 1048576 := by unfold totL at hn; omega
  go_enter Tryz.func56, Tryz.ntmps56
  go_wp2_with (refine wpList_make 69 100 4 _ _ rfl rfl xs.length rfl rfl (by kernel_rfl) (by kernel_rfl) (by omega) ?_; intro Z hZ)
  have hst := Half.start (d := kDoer) (e := 100) Z hZ (by unfold maxLen; omega) (Nat.le_refl w.heap.size)
  go_loopw [4] (fun i W => ∃ k : Nat, k ≤ xs.length ∧ i = .int .i64 k ∧ Half kDoer 100 w.heap.size W w.heap.size xs.length (xs.take k) ∧ Below w.heap.size w W) (fun i _ => xs.length - (intOf i).toNat)
  case atStart => exact ⟨0, Nat.zero_le _, rfl, hst, by repeat (first | assumption | exact Below.refl _ _ | (refine below_trans ?_ (by assumption)) | apply below_alloc | apply below_drewN | apply Below.drew)⟩
  case round =>
    obtain ⟨k, hk, rfl, hh, hb⟩ := hrel
    clear hst hZ
    by_cases hlt : k < xs.length
    · have hlt' : (k : Int) < (xs.length : Int) := by omega
      obtain ⟨a, ea, hx⟩ := (h.below hb).at_ hlt
      subst ea
      simp only [show kDoer.sz = 4 from rfl] at hx
      have hto : totDoer xs[k] ≤ 1048576 := by
        have t1 := totL_take totDoer xs k hlt
        have t2 := totL_le totDoer xs (k + 1)
        unfold totL at hn
        omega
      generalize hy : xs[k] = x at hx hto
      obtain ⟨A2, c2, hq⟩ := atDoer hx
      obtain ⟨q0, q1, q2, q3, h2⟩ := hq
      have hto := Lib.hid hto
      go_wp2_with (go_at_call 73; refine (toDoer_c x A2 c2 _ h2 (by have := hto.out; omega)).mono ?_; rintro e w1 ⟨G2, rfl, ⟨fp, nd, ow⟩, hb1⟩; obtain ⟨⟨u0, hu0⟩, hf0⟩ := (hh.below hb1).there (k := k) (j := 0) hlt (by decide); obtain ⟨⟨u1, hu1⟩, hf1⟩ := (hh.below hb1).there (k := k) (j := 1) hlt (by decide); obtain ⟨⟨u2, hu2⟩, hf2⟩ := (hh.below hb1).there (k := k) (j := 2) hlt (by decide); obtain ⟨⟨u3, hu3⟩, hf3⟩ := (hh.below hb1).there (k := k) (j := 3) hlt (by decide); simp only [show kDoer.sz = 4 from rfl, Nat.mul_one, Nat.add_zero] at hu0 hf0 hu1 hf1 hu2 hf2 hu3 hf3; have HP := Lib.hid (hh.push (fp := fp) (cs := [.bool x.Known, .int .i64 x.Last, .slice (some ⟨G2, 0, none⟩) x.Log.length x.Log.length, .int .i64 x.Commit]) (y := x) (by rw [List.length_take]; omega) hb1 ow nd); have HB := Lib.hid (below_sets (g := w.heap.size) (Nat.le_refl _) [.bool x.Known, .int .i64 x.Last, .slice (some ⟨G2, 0, none⟩) x.Log.length x.Log.length, .int .i64 x.Commit] (k * 4) w1 (below_trans hb hb1)))
      have hp := HP.out
      rw [List.length_take, Nat.min_eq_left hk, take_push xs k x hlt hy] at hp
      simp only [show kDoer.sz = 4 from rfl, Nat.mul_one, Nat.add_zero, World.setCells, Nat.add_assoc, Nat.reduceAdd] at hp
      have hB := HB.out
      simp only [show kDoer.sz = 4 from rfl, Nat.mul_one, Nat.add_zero, World.setCells, Nat.add_assoc, Nat.reduceAdd] at hB
      exact ⟨⟨k + 1, hlt, by go_num, hp, hB⟩, by simp [intOf]; omega⟩
    · have hk' : k = xs.length := by omega
      subst hk'
      rw [List.take_length] at hh
      go_wp2
      go_ret
      obtain ⟨fp, h1, h2⟩ := hh.done rfl
      exact ⟨_, fp, rfl, h1, h2, hb⟩
set_option maxRecDepth 100000 in
set_option maxHeartbeats 1000000 in
theorem toReplica_c (x : SReplica) (A5 : Option Addr) (c5 : Nat) (A7 : Option Addr) (c7 : Nat) (A8 : Option Addr) (c8 : Nat) (A9 : Option Addr) (c9 : Nat) (w : World) (h5 : RdS kEntry w A5 c5 x.Log) (h7 : RdS kInt w A7 c7 x.Oks) (h8 : RdS kBool w A8 c8 x.Asks) (h9 : RdS kDoer w A9 c9 x.Doers) (hn : totReplica x ≤ 1048576) :
    Calls Tryz.prog 30 #[.agg #[.int .i64 x.Id, .int .i64 x.Size, .int .i64 x.View, .bool x.Normal, .int .i64 x.Last, .slice A5 x.Log.length c5, .int .i64 x.Commit, .slice A7 x.Oks.length c7, .slice A8 x.Asks.length c8, .slice A9 x.Doers.length c9]] w fun e w' => ∃ G5 G7 G8 G9 : Nat, e = .returned (.agg #[.int .i64 x.Id, .int .i64 x.Size, .int .i64 x.View, .bool x.Normal, .int .i64 x.Last, .slice (some ⟨G5, 0, none⟩) x.Log.length x.Log.length, .int .i64 x.Commit, .slice (some ⟨G7, 0, none⟩) x.Oks.length x.Oks.length, .slice (some ⟨G8, 0, none⟩) x.Asks.length x.Asks.length, .slice (some ⟨G9, 0, none⟩) x.Doers.length x.Doers.length]) ∧ (∃ fp, fp.Nodup ∧ kReplica.Own w.heap.size w' fp [.int .i64 x.Id, .int .i64 x.Size, .int .i64 x.View, .bool x.Normal, .int .i64 x.Last, .slice (some ⟨G5, 0, none⟩) x.Log.length x.Log.length, .int .i64 x.Commit, .slice (some ⟨G7, 0, none⟩) x.Oks.length x.Oks.length, .slice (some ⟨G8, 0, none⟩) x.Asks.length x.Asks.length, .slice (some ⟨G9, 0, none⟩) x.Doers.length x.Doers.length] x) ∧ Below w.heap.size w w' := by
  unfold totReplica at hn
  go_enter Tryz.func30, Tryz.ntmps30
  go_wp2_with (first | (go_at_call 17; refine (toEntryS_c _ _ _ _ (h5.below (by repeat (first | (with_reducible assumption) | (with_reducible exact Below.refl _ _) | (with_reducible refine below_set ?_ (by dsimp only; omega) _) | (with_reducible apply below_alloc) | (with_reducible refine below_trans ?_ (by assumption))))) (by omega)).mono ?_; rintro e w1 ⟨G5, fp5, rfl, nd5, ow5, hb1⟩; have y1 := bcell hb1; have z1 : w.heap.size + 3 ≤ w1.heap.size := (by have := hb1.size; simp only [Deep.nblk_setCell, nblk_alloc3] at this; omega); have ea1 : w.heap.size < w1.heap.size := (by omega); have eb1 : w.heap.size + 1 < w1.heap.size := (by omega); have ec1 : w.heap.size + 1 + 1 < w1.heap.size := (by omega); have o5 := ow5.lift (B' := w.heap.size + 3) (fun b hb => by have := (ow5.in b hb).1; simp only [Deep.nblk_setCell, nblk_alloc3] at this; omega); clear ow5) | (go_at_call 54; refine (toInt64S_c _ _ _ _ (h7.below (by repeat (first | (with_reducible assumption) | (with_reducible exact Below.refl _ _) | (with_reducible refine below_set ?_ (by dsimp only; omega) _) | (with_reducible apply below_alloc) | (with_reducible refine below_trans ?_ (by assumption))))) (by omega)).mono ?_; rintro e w2 ⟨G7, fp7, rfl, nd7, ow7, hb2⟩; have y2 := bcell hb2; have z2 : w.heap.size + 3 ≤ w2.heap.size := (by have := hb2.size; simp only [Deep.nblk_setCell, nblk_alloc3] at this; omega); have ea2 : w.heap.size < w2.heap.size := (by omega); have eb2 : w.heap.size + 1 < w2.heap.size := (by omega); have ec2 : w.heap.size + 1 + 1 < w2.heap.size := (by omega); have o7 := ow7.lift (B' := w1.heap.size) (fun b hb => by have := (ow7.in b hb).1; simp only [Deep.nblk_setCell, nblk_alloc3] at this; omega); clear ow7; have p2 : Past (w.heap.size + 3) w1 w2 := (by refine Past.below ?_ hb2; repeat (first | (with_reducible exact Past.refl _ _) | (with_reducible refine Past.set ?_ (by omega) _)))) | (go_at_call 55; refine (toBoolS_c _ _ _ _ (h8.below (by repeat (first | (with_reducible assumption) | (with_reducible exact Below.refl _ _) | (with_reducible refine below_set ?_ (by dsimp only; omega) _) | (with_reducible apply below_alloc) | (with_reducible refine below_trans ?_ (by assumption))))) (by omega)).mono ?_; rintro e w3 ⟨G8, fp8, rfl, nd8, ow8, hb3⟩; have y3 := bcell hb3; have z3 : w.heap.size + 3 ≤ w3.heap.size := (by have := hb3.size; simp only [Deep.nblk_setCell, nblk_alloc3] at this; omega); have ea3 : w.heap.size < w3.heap.size := (by omega); have eb3 : w.heap.size + 1 < w3.heap.size := (by omega); have ec3 : w.heap.size + 1 + 1 < w3.heap.size := (by omega); have o8 := ow8.lift (B' := w2.heap.size) (fun b hb => by have := (ow8.in b hb).1; simp only [Deep.nblk_setCell, nblk_alloc3] at this; omega); clear ow8; have p3 : Past (w.heap.size + 3) w2 w3 := (by refine Past.below ?_ hb3; repeat (first | (with_reducible exact Past.refl _ _) | (with_reducible refine Past.set ?_ (by omega) _)))) | (go_at_call 56; refine (toDoerS_c _ _ _ _ (h9.below (by repeat (first | (with_reducible assumption) | (with_reducible exact Below.refl _ _) | (with_reducible refine below_set ?_ (by dsimp only; omega) _) | (with_reducible apply below_alloc) | (with_reducible refine below_trans ?_ (by assumption))))) (by omega)).mono ?_; rintro e w4 ⟨G9, fp9, rfl, nd9, ow9, hb4⟩; have y4 := bcell hb4; have z4 : w.heap.size + 3 ≤ w4.heap.size := (by have := hb4.size; simp only [Deep.nblk_setCell, nblk_alloc3] at this; omega); have ea4 : w.heap.size < w4.heap.size := (by omega); have eb4 : w.heap.size + 1 < w4.heap.size := (by omega); have ec4 : w.heap.size + 1 + 1 < w4.heap.size := (by omega); have o9 := ow9.lift (B' := w3.heap.size) (fun b hb => by have := (ow9.in b hb).1; simp only [Deep.nblk_setCell, nblk_alloc3] at this; omega); clear ow9; have p4 : Past (w.heap.size + 3) w3 w4 := (by refine Past.below ?_ hb4; repeat (first | (with_reducible exact Past.refl _ _) | (with_reducible refine Past.set ?_ (by omega) _)))))
  refine bodyPost_ret (v := .agg #[.int .i64 x.Id, .int .i64 x.Size, .int .i64 x.View, .bool x.Normal, .int .i64 x.Last, .slice (some ⟨G5, 0, none⟩) x.Log.length x.Log.length, .int .i64 x.Commit, .slice (some ⟨G7, 0, none⟩) x.Oks.length x.Oks.length, .slice (some ⟨G8, 0, none⟩) x.Asks.length x.Asks.length, .slice (some ⟨G9, 0, none⟩) x.Doers.length x.Doers.length]) (by simp [results, Tryz.results30, go_sem, y1, ea1, eb1, ec1, y2, ea2, eb2, ec2, y3, ea3, eb3, ec3, y4, ea4, eb4, ec4]) rfl ⟨G5, G7, G8, G9, rfl, ?_, by repeat (first | (with_reducible assumption) | (with_reducible exact Below.refl _ _) | (with_reducible refine below_set ?_ (by dsimp only; omega) _) | (with_reducible apply below_alloc) | (with_reducible refine below_trans ?_ (by assumption)))⟩
  have b5 : ∀ b ∈ fp5, w.heap.size + 3 ≤ b ∧ b < w1.heap.size := fun b hb => (o5.in b hb)
  have b7 : ∀ b ∈ fp7, w1.heap.size ≤ b ∧ b < w2.heap.size := fun b hb => (o7.in b hb)
  have b8 : ∀ b ∈ fp8, w2.heap.size ≤ b ∧ b < w3.heap.size := fun b hb => (o8.in b hb)
  have b9 : ∀ b ∈ fp9, w3.heap.size ≤ b ∧ b < w4.heap.size := fun b hb => (o9.in b hb)
  have m2 : w1.heap.size ≤ w2.heap.size := p2.1
  have m3 : w2.heap.size ≤ w3.heap.size := p3.1
  have m4 : w3.heap.size ≤ w4.heap.size := p4.1
  refine ⟨([] ++ ([] ++ ([] ++ ([] ++ ([] ++ (fp5 ++ ([] ++ (fp7 ++ (fp8 ++ fp9))))))))), ?_, ?_⟩
  rotate_left
  · exact ⟨[], ([] ++ ([] ++ ([] ++ ([] ++ (fp5 ++ ([] ++ (fp7 ++ (fp8 ++ fp9)))))))), _, _, rfl, rfl, ⟨rfl, rfl⟩, ⟨[], ([] ++ ([] ++ ([] ++ (fp5 ++ ([] ++ (fp7 ++ (fp8 ++ fp9))))))), _, _, rfl, rfl, ⟨rfl, rfl⟩, ⟨[], ([] ++ ([] ++ (fp5 ++ ([] ++ (fp7 ++ (fp8 ++ fp9)))))), _, _, rfl, rfl, ⟨rfl, rfl⟩, ⟨[], ([] ++ (fp5 ++ ([] ++ (fp7 ++ (fp8 ++ fp9))))), _, _, rfl, rfl, ⟨rfl, rfl⟩, ⟨[], (fp5 ++ ([] ++ (fp7 ++ (fp8 ++ fp9)))), _, _, rfl, rfl, ⟨rfl, rfl⟩, ⟨fp5, ([] ++ (fp7 ++ (fp8 ++ fp9))), _, _, rfl, rfl, ⟨_, rfl, o5.past (lo := w.heap.size + 3) (lo2 := w.heap.size) (p2.trans (p3.trans (p4.trans (by repeat (first | (with_reducible exact Past.refl _ _) | (with_reducible refine Past.set ?_ (by omega) _) | (with_reducible refine Past.below ?_ (by assumption))))))) (by omega) (by omega)⟩, ⟨[], (fp7 ++ (fp8 ++ fp9)), _, _, rfl, rfl, ⟨rfl, rfl⟩, ⟨fp7, (fp8 ++ fp9), _, _, rfl, rfl, ⟨_, rfl, o7.past (lo := w.heap.size + 3) (lo2 := w.heap.size) (p3.trans (p4.trans (by repeat (first | (with_reducible exact Past.refl _ _) | (with_reducible refine Past.set ?_ (by omega) _) | (with_reducible refine Past.below ?_ (by assumption)))))) (by omega) (by omega)⟩, ⟨fp8, fp9, _, _, rfl, rfl, ⟨_, rfl, o8.past (lo := w.heap.size + 3) (lo2 := w.heap.size) (p4.trans (by repeat (first | (with_reducible exact Past.refl _ _) | (with_reducible refine Past.set ?_ (by omega) _) | (with_reducible refine Past.below ?_ (by assumption))))) (by omega) (by omega)⟩, ⟨_, rfl, o9.past (lo := w.heap.size + 3) (lo2 := w.heap.size) (by repeat (first | (with_reducible exact Past.refl _ _) | (with_reducible refine Past.set ?_ (by omega) _) | (with_reducible refine Past.below ?_ (by assumption)))) (by omega) (by omega)⟩⟩⟩⟩⟩⟩⟩⟩⟩⟩
  · (try simp only [List.nil_append, List.append_nil])
    exact (nodup_join (m := w1.heap.size) nd5 (nodup_join (m := w2.heap.size) nd7 (nodup_join (m := w3.heap.size) nd8 nd9 (fun b hb => (b8 b hb).2) (by intro b hb; have := b9 b hb; omega)) (fun b hb => (b7 b hb).2) (by intro b hb; simp only [List.mem_append] at hb; rcases hb with hb | hb <;> (first | (have := b8 b hb) | (have := b9 b hb)) <;> omega)) (fun b hb => (b5 b hb).2) (by intro b hb; simp only [List.mem_append] at hb; rcases hb with hb | hb | hb <;> (first | (have := b7 b hb) | (have := b8 b hb) | (have := b9 b hb)) <;> omega))
set_option maxRecDepth 100000 in
set_option maxHeartbeats 1000000 in
theorem toReplicaS_c (xs : List SReplica) (A : Option Addr) (c : Nat) (w : World) (h : RdS kReplica w A c xs) (hn : totL totReplica xs ≤ 1048576) :
    Calls Tryz.prog 15 #[.slice A xs.length c] w fun e w' => ∃ (G : Nat) (fp : List Nat), e = .returned (.slice (some ⟨G, 0, none⟩) xs.length xs.length) ∧ fp.Nodup ∧ OwnS kReplica 71 w.heap.size w' fp (.slice (some ⟨G, 0, none⟩) xs.length xs.length) xs ∧ Below w.heap.size w w' := by
  have hlen : xs.length ≤ 1048576 := by unfold totL at hn; omega
  go_enter Tryz.func15, Tryz.ntmps15
  go_wp2_with (refine wpList_make 31 71 10 _ _ rfl rfl xs.length rfl rfl (by kernel_rfl) (by kernel_rfl) (by omega) ?_; intro Z hZ)
  have hst := Half.start (d := kReplica) (e := 71) Z hZ (by unfold maxLen; omega) (Nat.le_refl w.heap.size)
  go_loopw [4] (fun i W => ∃ k : Nat, k ≤ xs.length ∧ i = .int .i64 k ∧ Half kReplica 71 w.heap.size W w.heap.size xs.length (xs.take k) ∧ Below w.heap.size w W) (fun i _ => xs.length - (intOf i).toNat)
  case atStart => exact ⟨0, Nat.zero_le _, rfl, hst, by repeat (first | assumption | exact Below.refl _ _ | (refine below_trans ?_ (by assumption)) | apply below_alloc | apply below_drewN | apply Below.drew)⟩
  case round =>
    obtain ⟨k, hk, rfl, hh, hb⟩ := hrel
    clear hst hZ
    by_cases hlt : k < xs.length
    · have hlt' : (k : Int) < (xs.length : Int) := by omega
      obtain ⟨a, ea, hx⟩ := (h.below hb).at_ hlt
      subst ea
      simp only [show kReplica.sz = 10 from rfl] at hx
      have hto : totReplica xs[k] ≤ 1048576 := by
        have t1 := totL_take totReplica xs k hlt
        have t2 := totL_le totReplica xs (k + 1)
        unfold totL at hn
        omega
      generalize hy : xs[k] = x at hx hto
      obtain ⟨A5, c5, A7, c7, A8, c8, A9, c9, hq⟩ := atReplica hx
      obtain ⟨q0, q1, q2, q3, q4, q5, q6, q7, q8, q9, h5, h7, h8, h9⟩ := hq
      have hto := Lib.hid hto
      go_wp2_with (go_at_call 30; refine (toReplica_c x A5 c5 A7 c7 A8 c8 A9 c9 _ h5 h7 h8 h9 (by have := hto.out; omega)).mono ?_; rintro e w1 ⟨G5, G7, G8, G9, rfl, ⟨fp, nd, ow⟩, hb1⟩; obtain ⟨⟨u0, hu0⟩, hf0⟩ := (hh.below hb1).there (k := k) (j := 0) hlt (by decide); obtain ⟨⟨u1, hu1⟩, hf1⟩ := (hh.below hb1).there (k := k) (j := 1) hlt (by decide); obtain ⟨⟨u2, hu2⟩, hf2⟩ := (hh.below hb1).there (k := k) (j := 2) hlt (by decide); obtain ⟨⟨u3, hu3⟩, hf3⟩ := (hh.below hb1).there (k := k) (j := 3) hlt (by decide); obtain ⟨⟨u4, hu4⟩, hf4⟩ := (hh.below hb1).there (k := k) (j := 4) hlt (by decide); obtain ⟨⟨u5, hu5⟩, hf5⟩ := (hh.below hb1).there (k := k) (j := 5) hlt (by decide); obtain ⟨⟨u6, hu6⟩, hf6⟩ := (hh.below hb1).there (k := k) (j := 6) hlt (by decide); obtain ⟨⟨u7, hu7⟩, hf7⟩ := (hh.below hb1).there (k := k) (j := 7) hlt (by decide); obtain ⟨⟨u8, hu8⟩, hf8⟩ := (hh.below hb1).there (k := k) (j := 8) hlt (by decide); obtain ⟨⟨u9, hu9⟩, hf9⟩ := (hh.below hb1).there (k := k) (j := 9) hlt (by decide); simp only [show kReplica.sz = 10 from rfl, Nat.mul_one, Nat.add_zero] at hu0 hf0 hu1 hf1 hu2 hf2 hu3 hf3 hu4 hf4 hu5 hf5 hu6 hf6 hu7 hf7 hu8 hf8 hu9 hf9; have HP := Lib.hid (hh.push (fp := fp) (cs := [.int .i64 x.Id, .int .i64 x.Size, .int .i64 x.View, .bool x.Normal, .int .i64 x.Last, .slice (some ⟨G5, 0, none⟩) x.Log.length x.Log.length, .int .i64 x.Commit, .slice (some ⟨G7, 0, none⟩) x.Oks.length x.Oks.length, .slice (some ⟨G8, 0, none⟩) x.Asks.length x.Asks.length, .slice (some ⟨G9, 0, none⟩) x.Doers.length x.Doers.length]) (y := x) (by rw [List.length_take]; omega) hb1 ow nd); have HB := Lib.hid (below_sets (g := w.heap.size) (Nat.le_refl _) [.int .i64 x.Id, .int .i64 x.Size, .int .i64 x.View, .bool x.Normal, .int .i64 x.Last, .slice (some ⟨G5, 0, none⟩) x.Log.length x.Log.length, .int .i64 x.Commit, .slice (some ⟨G7, 0, none⟩) x.Oks.length x.Oks.length, .slice (some ⟨G8, 0, none⟩) x.Asks.length x.Asks.length, .slice (some ⟨G9, 0, none⟩) x.Doers.length x.Doers.length] (k * 10) w1 (below_trans hb hb1)))
      have hp := HP.out
      rw [List.length_take, Nat.min_eq_left hk, take_push xs k x hlt hy] at hp
      simp only [show kReplica.sz = 10 from rfl, Nat.mul_one, Nat.add_zero, World.setCells, Nat.add_assoc, Nat.reduceAdd] at hp
      have hB := HB.out
      simp only [show kReplica.sz = 10 from rfl, Nat.mul_one, Nat.add_zero, World.setCells, Nat.add_assoc, Nat.reduceAdd] at hB
      exact ⟨⟨k + 1, hlt, by go_num, hp, hB⟩, by simp [intOf]; omega⟩
    · have hk' : k = xs.length := by omega
      subst hk'
      rw [List.take_length] at hh
      go_wp2
      go_ret
      obtain ⟨fp, h1, h2⟩ := hh.done rfl
      exact ⟨_, fp, rfl, h1, h2, hb⟩
set_option maxRecDepth 100000 in
set_option maxHeartbeats 1000000 in
theorem toMail_c (x : SMail) (A13 : Option Addr) (c13 : Nat) (w : World) (h13 : RdS kEntry w A13 c13 x.Log) (hn : totMail x ≤ 1048576) :
    Calls Tryz.prog 31 #[.agg #[.int .i64 x.Kind, .int .i64 x.From, .int .i64 x.To, .int .i64 x.View, .int .i64 x.At, .bool x.Has, .int .i64 x.Entry.Client, .int .i64 x.Entry.Seq, .int .i64 x.Entry.Op.Kind, .int .i64 x.Entry.Op.Vol, .int .i64 x.Entry.Op.At, .int .i64 x.Entry.Op.Value, .int .i64 x.Last, .slice A13 x.Log.length c13, .int .i64 x.Commit]] w fun e w' => ∃ G13 : Nat, e = .returned (.agg #[.int .i64 x.Kind, .int .i64 x.From, .int .i64 x.To, .int .i64 x.View, .int .i64 x.At, .bool x.Has, .int .i64 x.Entry.Client, .int .i64 x.Entry.Seq, .int .i64 x.Entry.Op.Kind, .int .i64 x.Entry.Op.Vol, .int .i64 x.Entry.Op.At, .int .i64 x.Entry.Op.Value, .int .i64 x.Last, .slice (some ⟨G13, 0, none⟩) x.Log.length x.Log.length, .int .i64 x.Commit]) ∧ (∃ fp, fp.Nodup ∧ kMail.Own w.heap.size w' fp [.int .i64 x.Kind, .int .i64 x.From, .int .i64 x.To, .int .i64 x.View, .int .i64 x.At, .bool x.Has, .int .i64 x.Entry.Client, .int .i64 x.Entry.Seq, .int .i64 x.Entry.Op.Kind, .int .i64 x.Entry.Op.Vol, .int .i64 x.Entry.Op.At, .int .i64 x.Entry.Op.Value, .int .i64 x.Last, .slice (some ⟨G13, 0, none⟩) x.Log.length x.Log.length, .int .i64 x.Commit] x) ∧ Below w.heap.size w w' := by
  unfold totMail at hn
  go_enter Tryz.func31, Tryz.ntmps31
  go_wp2_with (first | (go_at_call 32; refine (toEntry_c _ _).mono ?_; rintro e w1 ⟨rfl, hb1⟩; have y1 := bcell hb1; have z1 : w.heap.size + 3 ≤ w1.heap.size := (by have := hb1.size; simp only [Deep.nblk_setCell, nblk_alloc3] at this; omega); have ea1 : w.heap.size < w1.heap.size := (by omega); have eb1 : w.heap.size + 1 < w1.heap.size := (by omega); have ec1 : w.heap.size + 1 + 1 < w1.heap.size := (by omega)) | (go_at_call 17; refine (toEntryS_c _ _ _ _ (h13.below (by repeat (first | (with_reducible assumption) | (with_reducible exact Below.refl _ _) | (with_reducible refine below_set ?_ (by dsimp only; omega) _) | (with_reducible apply below_alloc) | (with_reducible refine below_trans ?_ (by assumption))))) (by omega)).mono ?_; rintro e w2 ⟨G13, fp13, rfl, nd13, ow13, hb2⟩; have y2 := bcell hb2; have z2 : w.heap.size + 3 ≤ w2.heap.size := (by have := hb2.size; simp only [Deep.nblk_setCell, nblk_alloc3] at this; omega); have ea2 : w.heap.size < w2.heap.size := (by omega); have eb2 : w.heap.size + 1 < w2.heap.size := (by omega); have ec2 : w.heap.size + 1 + 1 < w2.heap.size := (by omega); have o13 := ow13.lift (B' := w1.heap.size) (fun b hb => by have := (ow13.in b hb).1; simp only [Deep.nblk_setCell, nblk_alloc3] at this; omega); clear ow13; have p2 : Past (w.heap.size + 3) w1 w2 := (by refine Past.below ?_ hb2; repeat (first | (with_reducible exact Past.refl _ _) | (with_reducible refine Past.set ?_ (by omega) _)))))
  refine bodyPost_ret (v := .agg #[.int .i64 x.Kind, .int .i64 x.From, .int .i64 x.To, .int .i64 x.View, .int .i64 x.At, .bool x.Has, .int .i64 x.Entry.Client, .int .i64 x.Entry.Seq, .int .i64 x.Entry.Op.Kind, .int .i64 x.Entry.Op.Vol, .int .i64 x.Entry.Op.At, .int .i64 x.Entry.Op.Value, .int .i64 x.Last, .slice (some ⟨G13, 0, none⟩) x.Log.length x.Log.length, .int .i64 x.Commit]) (by simp [results, Tryz.results31, go_sem, y1, ea1, eb1, ec1, y2, ea2, eb2, ec2]) rfl ⟨G13, rfl, ?_, by repeat (first | (with_reducible assumption) | (with_reducible exact Below.refl _ _) | (with_reducible refine below_set ?_ (by dsimp only; omega) _) | (with_reducible apply below_alloc) | (with_reducible refine below_trans ?_ (by assumption)))⟩
  have b13 : ∀ b ∈ fp13, w1.heap.size ≤ b ∧ b < w2.heap.size := fun b hb => (o13.in b hb)
  have m2 : w1.heap.size ≤ w2.heap.size := p2.1
  refine ⟨([] ++ ([] ++ ([] ++ ([] ++ ([] ++ ([] ++ (([] ++ ([] ++ ([] ++ ([] ++ ([] ++ []))))) ++ ([] ++ (fp13 ++ []))))))))), ?_, ?_⟩
  rotate_left
  · exact ⟨[], ([] ++ ([] ++ ([] ++ ([] ++ ([] ++ (([] ++ ([] ++ ([] ++ ([] ++ ([] ++ []))))) ++ ([] ++ (fp13 ++ [])))))))), _, _, rfl, rfl, ⟨rfl, rfl⟩, ⟨[], ([] ++ ([] ++ ([] ++ ([] ++ (([] ++ ([] ++ ([] ++ ([] ++ ([] ++ []))))) ++ ([] ++ (fp13 ++ []))))))), _, _, rfl, rfl, ⟨rfl, rfl⟩, ⟨[], ([] ++ ([] ++ ([] ++ (([] ++ ([] ++ ([] ++ ([] ++ ([] ++ []))))) ++ ([] ++ (fp13 ++ [])))))), _, _, rfl, rfl, ⟨rfl, rfl⟩, ⟨[], ([] ++ ([] ++ (([] ++ ([] ++ ([] ++ ([] ++ ([] ++ []))))) ++ ([] ++ (fp13 ++ []))))), _, _, rfl, rfl, ⟨rfl, rfl⟩, ⟨[], ([] ++ (([] ++ ([] ++ ([] ++ ([] ++ ([] ++ []))))) ++ ([] ++ (fp13 ++ [])))), _, _, rfl, rfl, ⟨rfl, rfl⟩, ⟨[], (([] ++ ([] ++ ([] ++ ([] ++ ([] ++ []))))) ++ ([] ++ (fp13 ++ []))), _, _, rfl, rfl, ⟨rfl, rfl⟩, ⟨([] ++ ([] ++ ([] ++ ([] ++ ([] ++ []))))), ([] ++ (fp13 ++ [])), _, _, rfl, rfl, ⟨[], ([] ++ ([] ++ ([] ++ ([] ++ [])))), _, _, rfl, rfl, ⟨rfl, rfl⟩, ⟨[], ([] ++ ([] ++ ([] ++ []))), _, _, rfl, rfl, ⟨rfl, rfl⟩, ⟨[], ([] ++ ([] ++ [])), _, _, rfl, rfl, ⟨rfl, rfl⟩, ⟨[], ([] ++ []), _, _, rfl, rfl, ⟨rfl, rfl⟩, ⟨[], [], _, _, rfl, rfl, ⟨rfl, rfl⟩, ⟨rfl, rfl⟩⟩⟩⟩⟩⟩, ⟨[], (fp13 ++ []), _, _, rfl, rfl, ⟨rfl, rfl⟩, ⟨fp13, [], _, _, rfl, rfl, ⟨_, rfl, o13.past (lo := w.heap.size + 3) (lo2 := w.heap.size) (by repeat (first | (with_reducible exact Past.refl _ _) | (with_reducible refine Past.set ?_ (by omega) _) | (with_reducible refine Past.below ?_ (by assumption)))) (by omega) (by omega)⟩, ⟨rfl, rfl⟩⟩⟩⟩⟩⟩⟩⟩⟩⟩
  · (try simp only [List.nil_append, List.append_nil])
    exact nd13
set_option maxRecDepth 100000 in
set_option maxHeartbeats 1000000 in
theorem toMailS_c (xs : List SMail) (A : Option Addr) (c : Nat) (w : World) (h : RdS kMail w A c xs) (hn : totL totMail xs ≤ 1048576) :
    Calls Tryz.prog 16 #[.slice A xs.length c] w fun e w' => ∃ (G : Nat) (fp : List Nat), e = .returned (.slice (some ⟨G, 0, none⟩) xs.length xs.length) ∧ fp.Nodup ∧ OwnS kMail 77 w.heap.size w' fp (.slice (some ⟨G, 0, none⟩) xs.length xs.length) xs ∧ Below w.heap.size w w' := by
  have hlen : xs.length ≤ 1048576 := by unfold totL at hn; omega
  go_enter Tryz.func16, Tryz.ntmps16
  go_wp2_with (refine wpList_make 32 77 15 _ _ rfl rfl xs.length rfl rfl (by kernel_rfl) (by kernel_rfl) (by omega) ?_; intro Z hZ)
  have hst := Half.start (d := kMail) (e := 77) Z hZ (by unfold maxLen; omega) (Nat.le_refl w.heap.size)
  go_loopw [4] (fun i W => ∃ k : Nat, k ≤ xs.length ∧ i = .int .i64 k ∧ Half kMail 77 w.heap.size W w.heap.size xs.length (xs.take k) ∧ Below w.heap.size w W) (fun i _ => xs.length - (intOf i).toNat)
  case atStart => exact ⟨0, Nat.zero_le _, rfl, hst, by repeat (first | assumption | exact Below.refl _ _ | (refine below_trans ?_ (by assumption)) | apply below_alloc | apply below_drewN | apply Below.drew)⟩
  case round =>
    obtain ⟨k, hk, rfl, hh, hb⟩ := hrel
    clear hst hZ
    by_cases hlt : k < xs.length
    · have hlt' : (k : Int) < (xs.length : Int) := by omega
      obtain ⟨a, ea, hx⟩ := (h.below hb).at_ hlt
      subst ea
      simp only [show kMail.sz = 15 from rfl] at hx
      have hto : totMail xs[k] ≤ 1048576 := by
        have t1 := totL_take totMail xs k hlt
        have t2 := totL_le totMail xs (k + 1)
        unfold totL at hn
        omega
      generalize hy : xs[k] = x at hx hto
      obtain ⟨A13, c13, hq⟩ := atMail hx
      obtain ⟨q0, q1, q2, q3, q4, q5, q6, q7, q8, q9, q10, q11, q12, q13, q14, h13⟩ := hq
      have hto := Lib.hid hto
      go_wp2_with (go_at_call 31; refine (toMail_c x A13 c13 _ h13 (by have := hto.out; omega)).mono ?_; rintro e w1 ⟨G13, rfl, ⟨fp, nd, ow⟩, hb1⟩; obtain ⟨⟨u0, hu0⟩, hf0⟩ := (hh.below hb1).there (k := k) (j := 0) hlt (by decide); obtain ⟨⟨u1, hu1⟩, hf1⟩ := (hh.below hb1).there (k := k) (j := 1) hlt (by decide); obtain ⟨⟨u2, hu2⟩, hf2⟩ := (hh.below hb1).there (k := k) (j := 2) hlt (by decide); obtain ⟨⟨u3, hu3⟩, hf3⟩ := (hh.below hb1).there (k := k) (j := 3) hlt (by decide); obtain ⟨⟨u4, hu4⟩, hf4⟩ := (hh.below hb1).there (k := k) (j := 4) hlt (by decide); obtain ⟨⟨u5, hu5⟩, hf5⟩ := (hh.below hb1).there (k := k) (j := 5) hlt (by decide); obtain ⟨⟨u6, hu6⟩, hf6⟩ := (hh.below hb1).there (k := k) (j := 6) hlt (by decide); obtain ⟨⟨u7, hu7⟩, hf7⟩ := (hh.below hb1).there (k := k) (j := 7) hlt (by decide); obtain ⟨⟨u8, hu8⟩, hf8⟩ := (hh.below hb1).there (k := k) (j := 8) hlt (by decide); obtain ⟨⟨u9, hu9⟩, hf9⟩ := (hh.below hb1).there (k := k) (j := 9) hlt (by decide); obtain ⟨⟨u10, hu10⟩, hf10⟩ := (hh.below hb1).there (k := k) (j := 10) hlt (by decide); obtain ⟨⟨u11, hu11⟩, hf11⟩ := (hh.below hb1).there (k := k) (j := 11) hlt (by decide); obtain ⟨⟨u12, hu12⟩, hf12⟩ := (hh.below hb1).there (k := k) (j := 12) hlt (by decide); obtain ⟨⟨u13, hu13⟩, hf13⟩ := (hh.below hb1).there (k := k) (j := 13) hlt (by decide); obtain ⟨⟨u14, hu14⟩, hf14⟩ := (hh.below hb1).there (k := k) (j := 14) hlt (by decide); simp only [show kMail.sz = 15 from rfl, Nat.mul_one, Nat.add_zero] at hu0 hf0 hu1 hf1 hu2 hf2 hu3 hf3 hu4 hf4 hu5 hf5 hu6 hf6 hu7 hf7 hu8 hf8 hu9 hf9 hu10 hf10 hu11 hf11 hu12 hf12 hu13 hf13 hu14 hf14; have HP := Lib.hid (hh.push (fp := fp) (cs := [.int .i64 x.Kind, .int .i64 x.From, .int .i64 x.To, .int .i64 x.View, .int .i64 x.At, .bool x.Has, .int .i64 x.Entry.Client, .int .i64 x.Entry.Seq, .int .i64 x.Entry.Op.Kind, .int .i64 x.Entry.Op.Vol, .int .i64 x.Entry.Op.At, .int .i64 x.Entry.Op.Value, .int .i64 x.Last, .slice (some ⟨G13, 0, none⟩) x.Log.length x.Log.length, .int .i64 x.Commit]) (y := x) (by rw [List.length_take]; omega) hb1 ow nd); have HB := Lib.hid (below_sets (g := w.heap.size) (Nat.le_refl _) [.int .i64 x.Kind, .int .i64 x.From, .int .i64 x.To, .int .i64 x.View, .int .i64 x.At, .bool x.Has, .int .i64 x.Entry.Client, .int .i64 x.Entry.Seq, .int .i64 x.Entry.Op.Kind, .int .i64 x.Entry.Op.Vol, .int .i64 x.Entry.Op.At, .int .i64 x.Entry.Op.Value, .int .i64 x.Last, .slice (some ⟨G13, 0, none⟩) x.Log.length x.Log.length, .int .i64 x.Commit] (k * 15) w1 (below_trans hb hb1)))
      have hp := HP.out
      rw [List.length_take, Nat.min_eq_left hk, take_push xs k x hlt hy] at hp
      simp only [show kMail.sz = 15 from rfl, Nat.mul_one, Nat.add_zero, World.setCells, Nat.add_assoc, Nat.reduceAdd] at hp
      have hB := HB.out
      simp only [show kMail.sz = 15 from rfl, Nat.mul_one, Nat.add_zero, World.setCells, Nat.add_assoc, Nat.reduceAdd] at hB
      exact ⟨⟨k + 1, hlt, by go_num, hp, hB⟩, by simp [intOf]; omega⟩
    · have hk' : k = xs.length := by omega
      subst hk'
      rw [List.take_length] at hh
      go_wp2
      go_ret
      obtain ⟨fp, h1, h2⟩ := hh.done rfl
      exact ⟨_, fp, rfl, h1, h2, hb⟩
set_option maxRecDepth 100000 in
set_option maxHeartbeats 1000000 in
theorem toCluster_c (x : SCluster) (A0 : Option Addr) (c0 : Nat) (A1 : Option Addr) (c1 : Nat) (A2 : Option Addr) (c2 : Nat) (w : World) (h0 : RdS kReplica w A0 c0 x.Nodes) (h1 : RdS kMail w A1 c1 x.Mails) (h2 : RdS kEntry w A2 c2 x.Sealed) (hn : totCluster x ≤ 1048576) :
    Calls Tryz.prog 6 #[.agg #[.slice A0 x.Nodes.length c0, .slice A1 x.Mails.length c1, .slice A2 x.Sealed.length c2]] w fun e w' => ∃ G0 G1 G2 : Nat, e = .returned (.agg #[.slice (some ⟨G0, 0, none⟩) x.Nodes.length x.Nodes.length, .slice (some ⟨G1, 0, none⟩) x.Mails.length x.Mails.length, .slice (some ⟨G2, 0, none⟩) x.Sealed.length x.Sealed.length]) ∧ (∃ fp, fp.Nodup ∧ kCluster.Own w.heap.size w' fp [.slice (some ⟨G0, 0, none⟩) x.Nodes.length x.Nodes.length, .slice (some ⟨G1, 0, none⟩) x.Mails.length x.Mails.length, .slice (some ⟨G2, 0, none⟩) x.Sealed.length x.Sealed.length] x) ∧ Below w.heap.size w w' := by
  unfold totCluster at hn
  go_enter Tryz.func6, Tryz.ntmps6
  go_wp2_with (first | (go_at_call 15; refine (toReplicaS_c _ _ _ _ (h0.below (by repeat (first | (with_reducible assumption) | (with_reducible exact Below.refl _ _) | (with_reducible refine below_set ?_ (by dsimp only; omega) _) | (with_reducible apply below_alloc) | (with_reducible refine below_trans ?_ (by assumption))))) (by omega)).mono ?_; rintro e w1 ⟨G0, fp0, rfl, nd0, ow0, hb1⟩; have y1 := bcell hb1; have z1 : w.heap.size + 3 ≤ w1.heap.size := (by have := hb1.size; simp only [Deep.nblk_setCell, nblk_alloc3] at this; omega); have ea1 : w.heap.size < w1.heap.size := (by omega); have eb1 : w.heap.size + 1 < w1.heap.size := (by omega); have ec1 : w.heap.size + 1 + 1 < w1.heap.size := (by omega); have o0 := ow0.lift (B' := w.heap.size + 3) (fun b hb => by have := (ow0.in b hb).1; simp only [Deep.nblk_setCell, nblk_alloc3] at this; omega); clear ow0) | (go_at_call 16; refine (toMailS_c _ _ _ _ (h1.below (by repeat (first | (with_reducible assumption) | (with_reducible exact Below.refl _ _) | (with_reducible refine below_set ?_ (by dsimp only; omega) _) | (with_reducible apply below_alloc) | (with_reducible refine below_trans ?_ (by assumption))))) (by omega)).mono ?_; rintro e w2 ⟨G1, fp1, rfl, nd1, ow1, hb2⟩; have y2 := bcell hb2; have z2 : w.heap.size + 3 ≤ w2.heap.size := (by have := hb2.size; simp only [Deep.nblk_setCell, nblk_alloc3] at this; omega); have ea2 : w.heap.size < w2.heap.size := (by omega); have eb2 : w.heap.size + 1 < w2.heap.size := (by omega); have ec2 : w.heap.size + 1 + 1 < w2.heap.size := (by omega); have o1 := ow1.lift (B' := w1.heap.size) (fun b hb => by have := (ow1.in b hb).1; simp only [Deep.nblk_setCell, nblk_alloc3] at this; omega); clear ow1; have p2 : Past (w.heap.size + 3) w1 w2 := (by refine Past.below ?_ hb2; repeat (first | (with_reducible exact Past.refl _ _) | (with_reducible refine Past.set ?_ (by omega) _)))) | (go_at_call 17; refine (toEntryS_c _ _ _ _ (h2.below (by repeat (first | (with_reducible assumption) | (with_reducible exact Below.refl _ _) | (with_reducible refine below_set ?_ (by dsimp only; omega) _) | (with_reducible apply below_alloc) | (with_reducible refine below_trans ?_ (by assumption))))) (by omega)).mono ?_; rintro e w3 ⟨G2, fp2, rfl, nd2, ow2, hb3⟩; have y3 := bcell hb3; have z3 : w.heap.size + 3 ≤ w3.heap.size := (by have := hb3.size; simp only [Deep.nblk_setCell, nblk_alloc3] at this; omega); have ea3 : w.heap.size < w3.heap.size := (by omega); have eb3 : w.heap.size + 1 < w3.heap.size := (by omega); have ec3 : w.heap.size + 1 + 1 < w3.heap.size := (by omega); have o2 := ow2.lift (B' := w2.heap.size) (fun b hb => by have := (ow2.in b hb).1; simp only [Deep.nblk_setCell, nblk_alloc3] at this; omega); clear ow2; have p3 : Past (w.heap.size + 3) w2 w3 := (by refine Past.below ?_ hb3; repeat (first | (with_reducible exact Past.refl _ _) | (with_reducible refine Past.set ?_ (by omega) _)))))
  refine bodyPost_ret (v := .agg #[.slice (some ⟨G0, 0, none⟩) x.Nodes.length x.Nodes.length, .slice (some ⟨G1, 0, none⟩) x.Mails.length x.Mails.length, .slice (some ⟨G2, 0, none⟩) x.Sealed.length x.Sealed.length]) (by simp [results, Tryz.results6, go_sem, y1, ea1, eb1, ec1, y2, ea2, eb2, ec2, y3, ea3, eb3, ec3]) rfl ⟨G0, G1, G2, rfl, ?_, by repeat (first | (with_reducible assumption) | (with_reducible exact Below.refl _ _) | (with_reducible refine below_set ?_ (by dsimp only; omega) _) | (with_reducible apply below_alloc) | (with_reducible refine below_trans ?_ (by assumption)))⟩
  have b0 : ∀ b ∈ fp0, w.heap.size + 3 ≤ b ∧ b < w1.heap.size := fun b hb => (o0.in b hb)
  have b1 : ∀ b ∈ fp1, w1.heap.size ≤ b ∧ b < w2.heap.size := fun b hb => (o1.in b hb)
  have b2 : ∀ b ∈ fp2, w2.heap.size ≤ b ∧ b < w3.heap.size := fun b hb => (o2.in b hb)
  have m2 : w1.heap.size ≤ w2.heap.size := p2.1
  have m3 : w2.heap.size ≤ w3.heap.size := p3.1
  refine ⟨(fp0 ++ (fp1 ++ fp2)), ?_, ?_⟩
  rotate_left
  · exact ⟨fp0, (fp1 ++ fp2), _, _, rfl, rfl, ⟨_, rfl, o0.past (lo := w.heap.size + 3) (lo2 := w.heap.size) (p2.trans (p3.trans (by repeat (first | (with_reducible exact Past.refl _ _) | (with_reducible refine Past.set ?_ (by omega) _) | (with_reducible refine Past.below ?_ (by assumption)))))) (by omega) (by omega)⟩, ⟨fp1, fp2, _, _, rfl, rfl, ⟨_, rfl, o1.past (lo := w.heap.size + 3) (lo2 := w.heap.size) (p3.trans (by repeat (first | (with_reducible exact Past.refl _ _) | (with_reducible refine Past.set ?_ (by omega) _) | (with_reducible refine Past.below ?_ (by assumption))))) (by omega) (by omega)⟩, ⟨_, rfl, o2.past (lo := w.heap.size + 3) (lo2 := w.heap.size) (by repeat (first | (with_reducible exact Past.refl _ _) | (with_reducible refine Past.set ?_ (by omega) _) | (with_reducible refine Past.below ?_ (by assumption)))) (by omega) (by omega)⟩⟩⟩
  · (try simp only [List.nil_append, List.append_nil])
    exact (nodup_join (m := w1.heap.size) nd0 (nodup_join (m := w2.heap.size) nd1 nd2 (fun b hb => (b1 b hb).2) (by intro b hb; have := b2 b hb; omega)) (fun b hb => (b0 b hb).2) (by intro b hb; simp only [List.mem_append] at hb; rcases hb with hb | hb <;> (first | (have := b1 b hb) | (have := b2 b hb)) <;> omega))
end Go.Proofs.YtdjfehjddfbbjaaGreatDoor
