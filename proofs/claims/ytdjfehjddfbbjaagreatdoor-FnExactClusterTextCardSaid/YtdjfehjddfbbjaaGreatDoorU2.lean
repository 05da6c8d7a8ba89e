/- A line of a word and numbers; the names and fields of operations (own work). -/
import Derived.Test.YtdjfehjddfbbjaaGreatDoorU1
set_option linter.unusedVariables false
set_option linter.unusedSimpArgs false
namespace Go.Proofs.YtdjfehjddfbbjaaGreatDoor
open Go Go.RowKit Mk
def lineB (wd : ByteArray) : List Nat → ByteArray
  | [] => wd
  | n :: ns => lineB ((wd ++ ⟨#[32]⟩) ++ numS n) ns
theorem lineB_app (wd : ByteArray) : ∀ (xs : List Nat) (n : Nat), lineB wd (xs ++ [n]) = (lineB wd xs ++ ⟨#[32]⟩) ++ numS n
  | xs, n => by
    induction xs generalizing wd with
    | nil => rfl
    | cons x xs ih => exact ih _
set_option maxRecDepth 100000 in
set_option maxHeartbeats 2000000 in
theorem l16Line_c (wd : ByteArray) (ns : List Nat) (A : Option Addr) (c : Nat) (w : World) (h : RdS kInt w A c (ns.map (fun (n : Nat) => (n : Int)))) (hl : ns.length ≤ 3) (hn : ∀ n ∈ ns, n ≤ 1000) (hs : wd.size ≤ 100000) :
    Calls Tryz.prog 29 #[.string wd, .slice A ns.length c] w fun r w' => r = .returned (.string (lineB wd ns)) ∧ Below w.heap.size w w' := by
  go_enter Tryz.func29, Tryz.ntmps29
  go_wp2_with fail
  go_loopw [0, 5] (fun q i W => ∃ k : Nat, k ≤ ns.length ∧ i = .int .i64 k ∧ ∃ acc : ByteArray, q = .string acc ∧ acc = lineB wd (ns.take k) ∧ acc.size ≤ 100000 + 1010 * k ∧ Below w.heap.size w W) (fun _ i _ => ns.length - (intOf i).toNat)
  case atStart => exact ⟨0, Nat.zero_le _, rfl, wd, rfl, rfl, by omega, Below.refl _ _⟩
  case round =>
    obtain ⟨k, hk, rfl, acc, rfl, hacc, hsz, hb⟩ := hrel
    by_cases hlt : k < ns.length
    · have hlt' : (k : Int) < (ns.length : Int) := by omega
      have happ := lineB_app wd (ns.take k) ns[k]
      rw [← List.take_succ_eq_append_getElem hlt, ← hacc] at happ
      have hn1 := hn _ (List.getElem_mem hlt)
      obtain ⟨a, ea, hx⟩ := (h.below hb).at_ (k := k) (by rw [List.length_map]; exact hlt)
      subst ea
      simp only [show kInt.sz = 1 from rfl, Nat.mul_one, List.getElem_map] at hx
      obtain ⟨cs, hl1, hcs⟩ := hx
      obtain rfl := hcs
      have q0 := hl1.c0
      have hds := numS_size ns[k]
      have hdl := dec_len ns[k]
      have HD := Lib.hid (l6Digits_c ns[k] hn1)
      generalize ns[k] = n at q0 happ hn1 hds hdl HD
      generalize numS n = D at HD happ hds
      have HA := Lib.hid happ
      have hs1 : ¬ (9223372036854775807 : Nat) < acc.size + 1 := by omega
      have hs2 : ¬ (9223372036854775807 : Nat) < acc.size + 1 + D.size := by omega
      have hsz2 : (acc ++ ⟨#[32]⟩ ++ D).size ≤ 100000 + 1010 * (k + 1) := by
        rw [ByteArray.size_append, ByteArray.size_append, show (⟨#[32]⟩ : ByteArray).size = 1 from rfl]; omega
      clear happ hacc hl1 hds hdl hn h
      go_wp2_with fail
      refine (HD.out _).mono ?_
      rintro e w1 ⟨rfl, hb1⟩
      go_wp2_with fail
      exact ⟨⟨k + 1, hlt, by go_num, (acc ++ ⟨#[32]⟩) ++ D, rfl, HA.out.symm, hsz2, below_trans hb hb1⟩, by simp [intOf]; omega⟩
    · have hk' : k = ns.length := by omega
      subst hk'
      rw [List.take_length] at hacc
      have HA := Lib.hid hacc
      clear hacc
      go_wp2_with fail
      go_ret
      exact ⟨by rw [← HA.out]; rfl, hb⟩
theorem rdS_blkI {W : World} {g : Nat} {cs : List Value} {xs : List Int} (h : Blk W g 2 cs) (hx : cs = xs.map (Value.int .i64)) (hl : xs.length ≤ 1000) : RdS kInt W (some ⟨g, 0, none⟩) xs.length xs := by
  subst hx
  refine ownS_rdsT (ownS_blk (B := 0) h (flat_int.row ?_) (Nat.zero_le _) (by unfold maxLen; omega))
  clear h hl
  induction xs with
  | nil => rfl
  | cons x xs ih => exact ⟨[.int .i64 x], _, rfl, rfl, ih⟩
theorem blk_alloc1 (w : World) (ob : Obj) (l : List Value) (e : TypeId) : Blk ((w.alloc ob).alloc (.cells l.toArray e)) (w.heap.size + 1) e l := by
  have := blk_alloc (w.alloc ob) l e
  rwa [Deep.nblk_alloc] at this
/-- The names of the kinds. -/
def namesV : List Value := [.string ⟨#[]⟩, .string ⟨#[99, 114, 101, 97, 116, 101]⟩, .string ⟨#[119, 114, 105, 116, 101]⟩, .string ⟨#[100, 105, 115, 99, 97, 114, 100]⟩, .string ⟨#[114, 101, 97, 100]⟩, .string ⟨#[115, 110, 97, 112]⟩, .string ⟨#[100, 101, 108, 101, 116, 101]⟩]
/-- The fields behind the volume. -/
def fieldsO (o : SOp) : List Int := if o.Kind = 1 then [o.Value] else if o.Kind = 2 then [o.At, o.Value] else if o.Kind = 3 then [o.At] else if o.Kind = 4 then [o.At] else if o.Kind = 5 then [o.Value] else []
/-- A row of numbers that is read. -/
def ReadInts (xs : List Int) (w : World) (r : Ending) (w' : World) : Prop := ∃ A c, r = .returned (.slice A xs.length c) ∧ RdS kInt w' A c xs ∧ Below w.heap.size w w'
end Go.Proofs.YtdjfehjddfbbjaaGreatDoor
