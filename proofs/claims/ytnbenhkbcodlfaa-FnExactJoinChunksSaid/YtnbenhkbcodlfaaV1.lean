/- Rows of rows of numbers: what the laws' functions come to (own work). -/
import Derived.Test.YtnbenhkbcodlfaaD1
import Derived.Test.YtnbenhkbcodlfaaD2
import Derived.Test.YtnbenhkbcodlfaaD3
import Derived.Test.YtnbenhkbcodlfaaTr
import Derived.Test.YtnbenhkbcodlfaaM1
set_option linter.unusedVariables false
set_option linter.unusedSimpArgs false
namespace Go.Proofs.Ytnbenhkbcodlfaa
open Go Go.RowKit Mk
abbrev kRow : Kd (List Int) := slice 2 kInt
theorem atRow {w : World} {p : Addr} {x : List Int} (h : At kRow w p x) : ∃ A c, w.cell? p = some (.slice A x.length c) ∧ RdS kInt w A c x := by
  obtain ⟨cs, hl, A, c, rfl, h⟩ := h
  exact ⟨A, c, hl.c0, h⟩
theorem opensRow : Opens Try.prog kRow 24 := opens_slice (e := 2) _ (by kernel_rfl) (by kernel_rfl) (opens_int (by kernel_rfl))
theorem opensRows : Opens Try.prog (slice 24 kRow) 22 := opens_slice (e := 24) _ (by kernel_rfl) (by kernel_rfl) opensRow
set_option maxRecDepth 100000 in
set_option maxHeartbeats 4000000 in
theorem szInt64SS_c (xs : List (List Int)) (A : Option Addr) (c : Nat) (left : Int) (w : World) (h : RdS kRow w A c xs) (hl0 : 0 ≤ left) (hl1 : left ≤ 1048576) :
    Calls Try.prog 5 #[.slice A xs.length c, .int .i64 left] w fun e w' => (∃ r : Int, e = .returned (.int .i64 r) ∧ Left left (totL List.length xs) r) ∧ Below w.heap.size w w' := by
  have hn := h.le63
  by_cases hz : (xs.length : Int) ≤ left
  · go_enter Try.func5, Try.ntmps5
    go_wp2_with fail
    go_loopw [1, 5] (fun l i W => ∃ k : Nat, k ≤ xs.length ∧ i = .int .i64 k ∧ ∃ m : Int, l = .int .i64 m ∧ 0 ≤ m ∧ m ≤ left ∧ (xs.length : Int) + (((xs.take k).map List.length).sum : Nat) + m ≤ left ∧ Below w.heap.size w W) (fun _ i _ => xs.length - (intOf i).toNat)
    case atStart => exact ⟨0, Nat.zero_le _, rfl, _, rfl, by omega, by omega, by rw [List.take_zero, List.map_nil, List.sum_nil]; omega, Below.refl _ _⟩
    case round =>
      obtain ⟨k, hk, rfl, m, rfl, hm, hml, hs, hb⟩ := hrel
      by_cases hlt : k < xs.length
      · have hlt' : (k : Int) < (xs.length : Int) := by omega
        have hst := totL_take List.length xs k hlt
        have hsl := totL_le List.length xs (k + 1)
        obtain ⟨a, ea, hx⟩ := (h.below hb).at_ hlt
        subst ea
        simp only [show kRow.sz = 1 from rfl, Nat.mul_one] at hx
        generalize xs[k] = x at hx hst
        obtain ⟨X, y, f0, hq⟩ := atRow hx
        have hst := Lib.hid hst
        have hsl := Lib.hid hsl
        have hs := Lib.hid hs
        go_wp2_with (go_at_call 25; refine (szInt64S_c X x.length y m _ hq.le63 hm (by omega)).mono ?_; rintro e w1 ⟨⟨r, rfl, hr⟩, hb1⟩)
        · have hr' := hr; unfold Left at hr'; have := hst.out; have := hsl.out; have := hs.out
          go_ret; refine ⟨⟨_, rfl, ?_⟩, by repeat (first | assumption | exact Below.refl _ _ | (refine below_trans ?_ (by assumption)) | apply below_alloc | apply below_drewN | apply Below.drew)⟩; unfold Left totL; omega
        · have hr' := hr; unfold Left at hr'; have := hst.out; have := hsl.out; have := hs.out
          refine ⟨⟨k + 1, hlt, by go_num, r, rfl, by omega, by omega, by omega, by repeat (first | assumption | exact Below.refl _ _ | (refine below_trans ?_ (by assumption)) | apply below_alloc | apply below_drewN | apply Below.drew)⟩, by simp [intOf]; omega⟩
      · have hk' : k = xs.length := by omega
        subst hk'
        rw [List.take_length] at hs
        go_wp2
        go_ret
        refine ⟨⟨_, rfl, ?_⟩, by repeat (first | assumption | exact Below.refl _ _ | (refine below_trans ?_ (by assumption)) | apply below_alloc | apply below_drewN | apply Below.drew)⟩; unfold Left totL; omega
  · go_enter Try.func5, Try.ntmps5
    go_wp2
    go_ret; exact ⟨⟨_, rfl, by unfold Left; omega⟩, by repeat (first | assumption | exact Below.refl _ _ | (refine below_trans ?_ (by assumption)) | apply below_alloc | apply below_drewN | apply Below.drew)⟩
set_option maxRecDepth 100000 in
set_option maxHeartbeats 1000000 in
theorem toInt64SS_c (xs : List (List Int)) (A : Option Addr) (c : Nat) (w : World) (h : RdS kRow w A c xs) (hn : totL List.length xs ≤ 1048576) :
    Calls Try.prog 7 #[.slice A xs.length c] w fun e w' => ∃ (G : Nat) (fp : List Nat), e = .returned (.slice (some ⟨G, 0, none⟩) xs.length xs.length) ∧ fp.Nodup ∧ OwnS kRow 24 w.heap.size w' fp (.slice (some ⟨G, 0, none⟩) xs.length xs.length) xs ∧ Below w.heap.size w w' := by
  have hlen : xs.length ≤ 1048576 := by unfold totL at hn; omega
  go_enter Try.func7, Try.ntmps7
  go_wp2_with (refine wpList_make 22 24 1 _ _ rfl rfl xs.length rfl rfl (by kernel_rfl) (by kernel_rfl) (by omega) ?_; intro Z hZ)
  have hst := Half.start (d := kRow) (e := 24) Z hZ (by unfold maxLen; omega) (Nat.le_refl w.heap.size)
  go_loopw [4] (fun i W => ∃ k : Nat, k ≤ xs.length ∧ i = .int .i64 k ∧ Half kRow 24 w.heap.size W w.heap.size xs.length (xs.take k) ∧ Below w.heap.size w W) (fun i _ => xs.length - (intOf i).toNat)
  case atStart => exact ⟨0, Nat.zero_le _, rfl, hst, by repeat (first | assumption | exact Below.refl _ _ | (refine below_trans ?_ (by assumption)) | apply below_alloc | apply below_drewN | apply Below.drew)⟩
  case round =>
    obtain ⟨k, hk, rfl, hh, hb⟩ := hrel
    clear hst hZ
    by_cases hlt : k < xs.length
    · have hlt' : (k : Int) < (xs.length : Int) := by omega
      obtain ⟨a, ea, hx⟩ := (h.below hb).at_ hlt
      subst ea
      simp only [show kRow.sz = 1 from rfl, Nat.mul_one] at hx
      have hto : xs[k].length ≤ 1048576 := by
        have t1 := totL_take List.length xs k hlt
        have t2 := totL_le List.length xs (k + 1)
        unfold totL at hn
        omega
      generalize hy : xs[k] = x at hx hto
      obtain ⟨X, y, q0, h2⟩ := atRow hx
      have hto := Lib.hid hto
      go_wp2_with (go_at_call 26; refine (toInt64S_c x X y _ h2 (by have := hto.out; omega)).mono ?_; rintro e w1 ⟨G2, fp, rfl, nd, ow, hb1⟩; obtain ⟨⟨u0, hu0⟩, hf0⟩ := (hh.below hb1).there (k := k) (j := 0) hlt (by decide); simp only [show kRow.sz = 1 from rfl, Nat.mul_one, Nat.add_zero] at hu0 hf0; have HP := Lib.hid (hh.push (fp := fp) (cs := [.slice (some ⟨G2, 0, none⟩) x.length x.length]) (y := x) (by rw [List.length_take]; omega) hb1 ⟨_, rfl, ow⟩ nd); have HB := Lib.hid (below_sets (g := w.heap.size) (Nat.le_refl _) [.slice (some ⟨G2, 0, none⟩) x.length x.length] (k * 1) w1 (below_trans hb hb1)))
      have hp := HP.out
      rw [List.length_take, Nat.min_eq_left hk, take_push xs k x hlt hy] at hp
      simp only [show kRow.sz = 1 from rfl, Nat.mul_one, Nat.add_zero, World.setCells, Nat.add_assoc, Nat.reduceAdd] at hp
      have hB := HB.out
      simp only [show kRow.sz = 1 from rfl, Nat.mul_one, Nat.add_zero, World.setCells, Nat.add_assoc, Nat.reduceAdd] at hB
      exact ⟨⟨k + 1, hlt, by go_num, hp, hB⟩, by simp [intOf]; omega⟩
    · have hk' : k = xs.length := by omega
      subst hk'
      rw [List.take_length] at hh
      go_wp2
      go_ret
      obtain ⟨fp, h1, h2⟩ := hh.done rfl
      exact ⟨_, fp, rfl, h1, h2, hb⟩
set_option maxRecDepth 100000 in
set_option maxHeartbeats 1000000 in
theorem eqInt64SS_c (xs : List (List Int)) (A : Option Addr) (c : Nat) (B : Option Addr) (d : Nat) (w : World) (h : RdS kRow w A c xs) (h' : RdS kRow w B d xs) :
    Calls Try.prog 10 #[.slice A xs.length c, .slice B xs.length d] w fun e w' => e = .returned (.bool true) ∧ Below w.heap.size w w' := by
  have hn := h.le63
  go_enter Try.func10, Try.ntmps10
  go_wp2_with fail
  go_loopw [5] (fun i W => ∃ k : Nat, k ≤ xs.length ∧ i = .int .i64 k ∧ Below w.heap.size w W) (fun i _ => xs.length - (intOf i).toNat)
  case atStart => exact ⟨0, Nat.zero_le _, rfl, Below.refl _ _⟩
  case round =>
    obtain ⟨k, hk, rfl, hb⟩ := hrel
    by_cases hlt : k < xs.length
    · have hlt' : (k : Int) < (xs.length : Int) := by omega
      obtain ⟨a, ea, hx⟩ := (h.below hb).at_ hlt
      obtain ⟨b, eb, hy⟩ := (h'.below hb).at_ hlt
      subst ea
      subst eb
      simp only [show kRow.sz = 1 from rfl, Nat.mul_one] at hx hy
      generalize xs[k] = x at hx hy
      obtain ⟨X, y, q0, hq⟩ := atRow hx
      obtain ⟨Y, z, p0, hp⟩ := atRow hy
      go_wp2_with fail
      go_still_tail 8, (by kernel_rfl)
      change wpList _ _ _ _ _ wr.drew
      go_wp2_with (go_at_call 31; refine (eqInt64S_c x X y Y z _ (hq.below (Below.refl _ _).drew) (hp.below (Below.refl _ _).drew)).mono ?_; rintro e w1 ⟨rfl, hb1⟩)
      exact ⟨⟨k + 1, hlt, by go_num, below_trans hb (below_trans (Below.refl _ _).drew hb1)⟩, by simp [intOf]; omega⟩
    · have hk' : k = xs.length := by omega
      subst hk'
      go_wp2
      go_ret; exact ⟨rfl, hb⟩
def mkRow (k : Int) (x : List Int) : List Int := mkL mkI ctI k x
def ctRow (x : List Int) : Nat := ctL ctI x
set_option maxRecDepth 100000 in
set_option maxHeartbeats 2000000 in
theorem markInt64SS_c (xs : List (List Int)) (A : Option Addr) (c : Nat) (k : Int) (B : Nat) (fp : List Nat) (w : World) (ho : OwnS kRow 24 B w fp (.slice A xs.length c) xs) (nd : fp.Nodup) (hk : 0 ≤ k) (hb : k + (ctL ctRow xs : Nat) ≤ 4611686018427387904) :
    Calls Try.prog 11 #[.slice A xs.length c, .int .i64 k] w fun e' w' => e' = .returned (.int .i64 (k + (ctL ctRow xs : Nat))) ∧ Turn fp w w' := by
  have hlen := (ownS_rds ho).1.le63
  go_enter Try.func11, Try.ntmps11
  go_wp2_with fail
  go_loopw [1, 5] (fun q i W => ∃ m : Nat, m ≤ xs.length ∧ i = .int .i64 m ∧ q = .int .i64 (k + (ctL ctRow (xs.take m) : Nat)) ∧ OwnS kRow 24 B W fp (.slice A xs.length c) (mkL mkRow ctRow k (xs.take m) ++ xs.drop m) ∧ Turn fp w W) (fun _ i _ => xs.length - (intOf i).toNat)
  case atStart => exact ⟨0, Nat.zero_le _, rfl, by simp [ctL], ho, Turn.refl _ _⟩
  case round =>
    clear ho
    obtain ⟨m, hm, rfl, rfl, ho, ht⟩ := hrel
    by_cases hlt : m < xs.length
    · have hlt' : (m : Int) < (xs.length : Int) := by omega
      have hc1 := ctL_take ctRow xs m hlt
      have hc2 := ctL_le ctRow xs (m + 1)
      have hmk := mkL_take mkRow ctRow k xs m hlt
      have hin := ho.in
      rw [List.drop_eq_getElem_cons hlt] at ho
      generalize hx : xs[m] = x at ho hc1 hmk
      rw [hc1] at hc2
      have HG := Lib.hid hc1
      generalize hK : k + (ctL ctRow (xs.take m) : Int) = q at hmk ⊢
      have HQ := Lib.hid hK
      have hq0 : 0 ≤ q := by omega
      have hq1 : q + (ctRow x : Nat) ≤ 4611686018427387904 := by omega
      have HM := Lib.hid hmk
      clear hK hc1 hx hc2 hb hk hmk
      obtain ⟨gg, fe, f1, f2, c1, ce, c2, rfl, hn, rfl, hc1, hB, hO, wand⟩ := ho.zoom nd
      rw [mkL_length, List.length_take, Nat.min_eq_left hm] at hc1
      clear ho hn
      simp only [show kRow.sz = 1 from rfl, Nat.mul_one] at hc1
      obtain ⟨v, rfl, hO⟩ := hO
      obtain ⟨A2, c2', rfl, _⟩ := hO.form
      have nde := nd_e nd
      have hge : ∀ b, b ∈ (fe : List Nat) → b ≠ gg := fun b hb e => nd_ge nd (e ▸ hb)
      have hfe : ∀ b, b ∈ f1 ∨ b ∈ f2 → b ∉ (fe : List Nat) := fun b hb => nd_fe nd b hb
      have hib : ∀ b, b ∈ f1 ∨ b ∈ f2 → b < wr.heap.size := fun b hb => (hin b (by rcases hb with hb | hb <;> simp [hb])).2
      have q0 := hB.mid hc1 (j := 0) rfl
      simp only [Nat.add_zero] at q0
      have HB := Lib.hid hB
      clear hB
      go_wp2_with fail
      refine Calls.mono (markInt64S_c x A2 c2' _ B fe _ hO nde (by omega) hq1) ?_
      rintro e2 w2 ⟨rfl, o2, t2⟩
      have hB := HB.out
      have hB2 := Blk.keep hB (t2.block gg hB.lt (fun hm => hge gg hm rfl))
      have fr2 : ∀ b, b ∈ f1 ∨ b ∈ f2 → w2.heap[b]? = wr.heap[b]? := fun b hb => t2.block b (hib b hb) (hfe b hb)
      have ht := Turn.trans ht (t2.mono (fq := gg :: (f1 ++ (fe ++ f2))) (by intro b hb; simp [hb]))
      go_wp2_with fail
      refine ⟨⟨m + 1, hlt, by go_num, congrArg (Value.int .i64) (by have h1 := HG.out; have h2 := HQ.out; simp only [ctRow] at h1 ⊢; omega), ?_, ht⟩, by simp [intOf]; omega⟩
      rw [HM.out]
      have e2 : (mkRow q x).length = x.length := mkL_length _ _ _ _
      exact wand _ _ _ (mkRow q x) hB2 ⟨_, rfl, o2⟩ fr2
    · have hk' : m = xs.length := by omega
      subst hk'
      rw [List.take_length, List.drop_length, List.append_nil] at ho
      clear ho
      go_wp2_with fail
      go_ret
      exact ⟨by first | rfl | (rw [List.take_length]; rfl), ht⟩
end Go.Proofs.Ytnbenhkbcodlfaa
