/- What a value holds, and the laws' size functions (written by gD1.py, own work). -/
import Derived.Test.YtnbenhkbcodlfaaZTy
import Derived.Test.YtnbenhkbcodlfaaZRo
import Derived.Test.YtnbenhkbcodlfaaProg
set_option linter.unusedVariables false
set_option linter.unusedSimpArgs false
namespace Go.Proofs.Ytnbenhkbcodlfaa
open Go Go.RowKit Mk
theorem totL_take {α : Type} (f : α → Nat) (xs : List α) (k : Nat) (hk : k < xs.length) : ((xs.take (k + 1)).map f).sum = ((xs.take k).map f).sum + f xs[k] := by
  rw [List.take_succ_eq_append_getElem hk, List.map_append, List.sum_append]; simp only [List.map_cons, List.map_nil, List.sum_cons, List.sum_nil, Nat.add_zero]
theorem totL_le {α : Type} (f : α → Nat) (xs : List α) (k : Nat) : ((xs.take k).map f).sum ≤ (xs.map f).sum := by
  conv => rhs; rw [← List.take_append_drop k xs]
  rw [List.map_append, List.sum_append]; omega
def totL {α : Type} (f : α → Nat) (xs : List α) : Nat := xs.length + (xs.map f).sum
/-- What a size function comes to: what is left, or less than nothing. -/
def Left (left : Int) (t : Nat) (r : Int) : Prop := r ≤ left ∧ -1 ≤ r ∧ (0 ≤ r → (t : Int) + r ≤ left)
theorem szInt64S_c (A : Option Addr) (n c : Nat) (left : Int) (w : World) (hn : n ≤ 9223372036854775807) (hl0 : 0 ≤ left) (hl1 : left ≤ 1048576) :
    Calls Try.prog 25 #[.slice A n c, .int .i64 left] w fun e w' => (∃ r : Int, e = .returned (.int .i64 r) ∧ Left left n r) ∧ Below w.heap.size w w' := by
  go_enter Try.func25, Try.ntmps25
  go_wp2
  all_goals (go_ret; exact ⟨⟨_, rfl, by unfold Left; omega⟩, by repeat (first | assumption | exact Below.refl _ _ | (refine below_trans ?_ (by assumption)) | apply below_alloc | apply below_drewN | apply Below.drew)⟩)
def totDoer (x : SDoer) : Nat := x.Log.length
def totReplica (x : SReplica) : Nat := x.Log.length + x.Oks.length + x.Asks.length + totL totDoer x.Doers
def totMail (x : SMail) : Nat := x.Log.length
def totCluster (x : SCluster) : Nat := totL totReplica x.Nodes + totL totMail x.Mails + x.Sealed.length
end Go.Proofs.Ytnbenhkbcodlfaa

/- What the laws' copying functions come to (written by gD2.py, own work). -/
set_option linter.unusedVariables false
set_option linter.unusedSimpArgs false
namespace Go.Proofs.Ytnbenhkbcodlfaa
open Go Go.RowKit Mk
theorem own_rds {α : Type} {d : Kd α} {e : TypeId} {B : Nat} {w : World} {fp : List Nat} {A : Option Addr} {n c : Nat} {xs : List α} (h : OwnS d e B w fp (.slice A n c) xs) : RdS d w A c xs := by
  obtain ⟨A', c', h1, h2⟩ := h.form
  injection h1 with a b c
  subst a; subst c; exact h2
theorem nblk_alloc3 (w : World) (o : Obj) : (w.alloc o).heap.size = w.heap.size + 1 := Deep.nblk_alloc w o
theorem take_push {α : Type} (xs : List α) (k : Nat) (x : α) (hk : k < xs.length) (hx : xs[k] = x) : xs.take k ++ [x] = xs.take (k + 1) := by
  rw [List.take_succ_eq_append_getElem hk, hx]
theorem ownOp (B : Nat) (w : World) (x : SOp) : kOp.Own B w [] [.int .i64 x.Kind, .int .i64 x.Vol, .int .i64 x.At, .int .i64 x.Value] x := ⟨[], ([] ++ ([] ++ [])), _, _, rfl, rfl, ⟨rfl, rfl⟩, ⟨[], ([] ++ []), _, _, rfl, rfl, ⟨rfl, rfl⟩, ⟨[], [], _, _, rfl, rfl, ⟨rfl, rfl⟩, ⟨rfl, rfl⟩⟩⟩⟩
theorem ownEntry (B : Nat) (w : World) (x : SEntry) : kEntry.Own B w [] [.int .i64 x.Client, .int .i64 x.Seq, .int .i64 x.Op.Kind, .int .i64 x.Op.Vol, .int .i64 x.Op.At, .int .i64 x.Op.Value] x := ⟨[], ([] ++ ([] ++ ([] ++ ([] ++ [])))), _, _, rfl, rfl, ⟨rfl, rfl⟩, ⟨[], ([] ++ ([] ++ ([] ++ []))), _, _, rfl, rfl, ⟨rfl, rfl⟩, ⟨[], ([] ++ ([] ++ [])), _, _, rfl, rfl, ⟨rfl, rfl⟩, ⟨[], ([] ++ []), _, _, rfl, rfl, ⟨rfl, rfl⟩, ⟨[], [], _, _, rfl, rfl, ⟨rfl, rfl⟩, ⟨rfl, rfl⟩⟩⟩⟩⟩⟩
set_option maxRecDepth 100000 in
set_option maxHeartbeats 1000000 in
theorem toInt64S_c (xs : List Int) (A : Option Addr) (c : Nat) (w : World) (h : RdS kInt w A c xs) (hn : xs.length ≤ 1048576) :
    Calls Try.prog 26 #[.slice A xs.length c] w fun e w' => ∃ (G : Nat) (fp : List Nat), e = .returned (.slice (some ⟨G, 0, none⟩) xs.length xs.length) ∧ fp.Nodup ∧ OwnS kInt 2 w.heap.size w' fp (.slice (some ⟨G, 0, none⟩) xs.length xs.length) xs ∧ Below w.heap.size w w' := by
  have hlen : xs.length ≤ 1048576 := by omega
  go_enter Try.func26, Try.ntmps26
  go_wp2_with (refine wpList_make 24 2 1 _ _ rfl rfl xs.length rfl rfl (by kernel_rfl) (by kernel_rfl) (by omega) ?_; intro Z hZ)
  have hst := Half.start (d := kInt) (e := 2) Z hZ (by unfold maxLen; omega) (Nat.le_refl w.heap.size)
  go_loopw [4] (fun i W => ∃ k : Nat, k ≤ xs.length ∧ i = .int .i64 k ∧ Half kInt 2 w.heap.size W w.heap.size xs.length (xs.take k) ∧ Below w.heap.size w W) (fun i _ => xs.length - (intOf i).toNat)
  case atStart => exact ⟨0, Nat.zero_le _, rfl, hst, by repeat (first | assumption | exact Below.refl _ _ | (refine below_trans ?_ (by assumption)) | apply below_alloc | apply below_drewN | apply Below.drew)⟩
  case round =>
    obtain ⟨k, hk, rfl, hh, hb⟩ := hrel
    clear hst hZ
    by_cases hlt : k < xs.length
    · have hlt' : (k : Int) < (xs.length : Int) := by omega
      obtain ⟨a, ea, hx⟩ := (h.below hb).at_ hlt
      subst ea
      simp only [show kInt.sz = 1 from rfl, Nat.mul_one] at hx
      obtain ⟨cs, hl, hcs⟩ := hx
      obtain rfl := hcs
      have q0 := hl.c0
      generalize hy : xs[k] = x at q0
      clear hl
      obtain ⟨⟨u0, hu0⟩, hf0⟩ := hh.there (k := k) (j := 0) hlt (by decide)
      simp only [show kInt.sz = 1 from rfl, Nat.mul_one, Nat.add_zero] at hu0 hf0
      have hp := hh.push (fp := []) (cs := [Value.int .i64 x]) (y := x) (by rw [List.length_take]; omega) (Below.refl _ _) ⟨rfl, rfl⟩ List.nodup_nil
      rw [List.length_take, Nat.min_eq_left hk, take_push xs k x hlt hy] at hp
      simp only [show kInt.sz = 1 from rfl, Nat.mul_one, Nat.add_zero, World.setCells, Nat.add_assoc, Nat.reduceAdd] at hp
      have HP := Lib.hid hp
      have HB := Lib.hid (below_set hb (p := ⟨w.heap.size, k, none⟩) (Nat.le_refl _) (Value.int .i64 x))
      clear hp hh
      go_wp2
      exact ⟨⟨k + 1, hlt, by go_num, HP.out, HB.out⟩, by simp [intOf]; omega⟩
    · have hk' : k = xs.length := by omega
      subst hk'
      rw [List.take_length] at hh
      go_wp2
      go_ret
      obtain ⟨fp, h1, h2⟩ := hh.done rfl
      exact ⟨_, fp, rfl, h1, h2, hb⟩
end Go.Proofs.Ytnbenhkbcodlfaa

/- What the laws' comparisons come to where both sides read alike (written by gD3.py, own work). -/
set_option linter.unusedVariables false
set_option linter.unusedSimpArgs false
namespace Go.Proofs.Ytnbenhkbcodlfaa
open Go Go.RowKit Mk
theorem nblk_allocE (w : World) (o : Obj) : (w.alloc o).heap.size = w.heap.size + 1 := Deep.nblk_alloc w o
set_option maxRecDepth 100000 in
set_option maxHeartbeats 1000000 in
theorem eqInt64S_c (xs : List Int) (A : Option Addr) (c : Nat) (B : Option Addr) (d : Nat) (w : World) (h : RdS kInt w A c xs) (h' : RdS kInt w B d xs) :
    Calls Try.prog 31 #[.slice A xs.length c, .slice B xs.length d] w fun e w' => e = .returned (.bool true) ∧ Below w.heap.size w w' := by
  have hn := h.le63
  go_enter Try.func31, Try.ntmps31
  go_wp2_with fail
  go_loopw [5] (fun i W => ∃ k : Nat, k ≤ xs.length ∧ i = .int .i64 k ∧ Below w.heap.size w W) (fun i _ => xs.length - (intOf i).toNat)
  case atStart => exact ⟨0, Nat.zero_le _, rfl, Below.refl _ _⟩
  case round =>
    obtain ⟨k, hk, rfl, hb⟩ := hrel
    by_cases hlt : k < xs.length
    · have hlt' : (k : Int) < (xs.length : Int) := by omega
      obtain ⟨a, ea, hx⟩ := (h.below hb).at_ hlt
      obtain ⟨b, eb, hy⟩ := (h'.below hb).at_ hlt
      subst ea
      subst eb
      simp only [show kInt.sz = 1 from rfl, Nat.mul_one] at hx hy
      generalize xs[k] = x at hx hy
      obtain ⟨cs, hl, hcs⟩ := hx
      obtain rfl := hcs
      obtain ⟨cs, hl2, hcs⟩ := hy
      obtain rfl := hcs
      have q0 := hl.c0
      have p0 := hl2.c0
      clear hl hl2
      go_wp2_with fail
      go_quiet (fail)
      go_wp2_with fail
      exact ⟨⟨k + 1, hlt, by go_num, by repeat (first | assumption | exact Below.refl _ _ | (refine below_trans ?_ (by assumption)) | apply below_alloc | apply below_drewN | apply Below.drew)⟩, by simp [intOf]; omega⟩
    · have hk' : k = xs.length := by omega
      subst hk'
      go_wp2
      go_ret; exact ⟨rfl, hb⟩
end Go.Proofs.Ytnbenhkbcodlfaa
