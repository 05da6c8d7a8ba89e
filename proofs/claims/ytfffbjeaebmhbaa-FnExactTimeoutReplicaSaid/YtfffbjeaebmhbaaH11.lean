/- Two nodes' results that read alike; bounds of marks; what a copy gives to read (own work). -/
import Derived.Test.YtfffbjeaebmhbaaH9
import Derived.Test.YtfffbjeaebmhbaaM2
import Derived.Test.YtfffbjeaebmhbaaD1
import Derived.Test.YtfffbjeaebmhbaaD2
import Derived.Test.YtfffbjeaebmhbaaD3
set_option linter.unusedVariables false
set_option linter.unusedSimpArgs false
namespace Go.Proofs.Ytfffbjeaebmhbaa
open Go Go.RowKit Mk
set_option maxRecDepth 100000 in
set_option maxHeartbeats 2000000 in
theorem eqReplicaResult_c (x : SReplicaResult) (A6 : Option Addr) (c6 : Nat) (A8 : Option Addr) (c8 : Nat) (A9 : Option Addr) (c9 : Nat) (A10 : Option Addr) (c10 : Nat) (A11 : Option Addr) (c11 : Nat) (B6 : Option Addr) (d6 : Nat) (B8 : Option Addr) (d8 : Nat) (B9 : Option Addr) (d9 : Nat) (B10 : Option Addr) (d10 : Nat) (B11 : Option Addr) (d11 : Nat) (w : World) (h6 : RdS kEntry w A6 c6 x.Replica.Log) (h8 : RdS kInt w A8 c8 x.Replica.Oks) (h9 : RdS kBool w A9 c9 x.Replica.Asks) (h10 : RdS kDoer w A10 c10 x.Replica.Doers) (h11 : RdS kMail w A11 c11 x.Send) (k6 : RdS kEntry w B6 d6 x.Replica.Log) (k8 : RdS kInt w B8 d8 x.Replica.Oks) (k9 : RdS kBool w B9 d9 x.Replica.Asks) (k10 : RdS kDoer w B10 d10 x.Replica.Doers) (k11 : RdS kMail w B11 d11 x.Send) :
    Calls Try.prog 45 #[.agg #[.int .i64 x.Code, .int .i64 x.Replica.Id, .int .i64 x.Replica.Size, .int .i64 x.Replica.View, .bool x.Replica.Normal, .int .i64 x.Replica.Last, .slice A6 x.Replica.Log.length c6, .int .i64 x.Replica.Commit, .slice A8 x.Replica.Oks.length c8, .slice A9 x.Replica.Asks.length c9, .slice A10 x.Replica.Doers.length c10, .slice A11 x.Send.length c11], .agg #[.int .i64 x.Code, .int .i64 x.Replica.Id, .int .i64 x.Replica.Size, .int .i64 x.Replica.View, .bool x.Replica.Normal, .int .i64 x.Replica.Last, .slice B6 x.Replica.Log.length d6, .int .i64 x.Replica.Commit, .slice B8 x.Replica.Oks.length d8, .slice B9 x.Replica.Asks.length d9, .slice B10 x.Replica.Doers.length d10, .slice B11 x.Send.length d11]] w fun e w' => e = .returned (.bool true) ∧ Below w.heap.size w w' := by
  go_enter Try.func45, Try.ntmps45
  go_wp2_with fail
  refine (eqReplica_c x.Replica _ _ _ _ _ _ _ _ _ _ _ _ _ _ _ _ _ (h6.below (by repeat (first | (with_reducible assumption) | (with_reducible exact Below.refl _ _) | (with_reducible apply below_alloc) | (with_reducible apply below_drewN) | (with_reducible apply Below.drew) | (with_reducible refine below_set ?_ (by dsimp only; omega) _) | (with_reducible refine below_trans ?_ (by assumption))))) (h8.below (by repeat (first | (with_reducible assumption) | (with_reducible exact Below.refl _ _) | (with_reducible apply below_alloc) | (with_reducible apply below_drewN) | (with_reducible apply Below.drew) | (with_reducible refine below_set ?_ (by dsimp only; omega) _) | (with_reducible refine below_trans ?_ (by assumption))))) (h9.below (by repeat (first | (with_reducible assumption) | (with_reducible exact Below.refl _ _) | (with_reducible apply below_alloc) | (with_reducible apply below_drewN) | (with_reducible apply Below.drew) | (with_reducible refine below_set ?_ (by dsimp only; omega) _) | (with_reducible refine below_trans ?_ (by assumption))))) (h10.below (by repeat (first | (with_reducible assumption) | (with_reducible exact Below.refl _ _) | (with_reducible apply below_alloc) | (with_reducible apply below_drewN) | (with_reducible apply Below.drew) | (with_reducible refine below_set ?_ (by dsimp only; omega) _) | (with_reducible refine below_trans ?_ (by assumption))))) (k6.below (by repeat (first | (with_reducible assumption) | (with_reducible exact Below.refl _ _) | (with_reducible apply below_alloc) | (with_reducible apply below_drewN) | (with_reducible apply Below.drew) | (with_reducible refine below_set ?_ (by dsimp only; omega) _) | (with_reducible refine below_trans ?_ (by assumption))))) (k8.below (by repeat (first | (with_reducible assumption) | (with_reducible exact Below.refl _ _) | (with_reducible apply below_alloc) | (with_reducible apply below_drewN) | (with_reducible apply Below.drew) | (with_reducible refine below_set ?_ (by dsimp only; omega) _) | (with_reducible refine below_trans ?_ (by assumption))))) (k9.below (by repeat (first | (with_reducible assumption) | (with_reducible exact Below.refl _ _) | (with_reducible apply below_alloc) | (with_reducible apply below_drewN) | (with_reducible apply Below.drew) | (with_reducible refine below_set ?_ (by dsimp only; omega) _) | (with_reducible refine below_trans ?_ (by assumption))))) (k10.below (by repeat (first | (with_reducible assumption) | (with_reducible exact Below.refl _ _) | (with_reducible apply below_alloc) | (with_reducible apply below_drewN) | (with_reducible apply Below.drew) | (with_reducible refine below_set ?_ (by dsimp only; omega) _) | (with_reducible refine below_trans ?_ (by assumption)))))).mono ?_
  rintro e w1 ⟨rfl, hb1⟩
  have X : Blk w1 w.heap.size 61 [.int .i64 x.Code, .int .i64 x.Replica.Id, .int .i64 x.Replica.Size, .int .i64 x.Replica.View, .bool x.Replica.Normal, .int .i64 x.Replica.Last, .slice A6 x.Replica.Log.length c6, .int .i64 x.Replica.Commit, .slice A8 x.Replica.Oks.length c8, .slice A9 x.Replica.Asks.length c9, .slice A10 x.Replica.Doers.length c10, .slice A11 x.Send.length c11] := ((blk_alloc w [.int .i64 x.Code, .int .i64 x.Replica.Id, .int .i64 x.Replica.Size, .int .i64 x.Replica.View, .bool x.Replica.Normal, .int .i64 x.Replica.Last, .slice A6 x.Replica.Log.length c6, .int .i64 x.Replica.Commit, .slice A8 x.Replica.Oks.length c8, .slice A9 x.Replica.Asks.length c9, .slice A10 x.Replica.Doers.length c10, .slice A11 x.Send.length c11] 61).below (below_alloc (Below.refl _ _) _)).below hb1
  have Y : Blk w1 (w.heap.size + 1) 61 [.int .i64 x.Code, .int .i64 x.Replica.Id, .int .i64 x.Replica.Size, .int .i64 x.Replica.View, .bool x.Replica.Normal, .int .i64 x.Replica.Last, .slice B6 x.Replica.Log.length d6, .int .i64 x.Replica.Commit, .slice B8 x.Replica.Oks.length d8, .slice B9 x.Replica.Asks.length d9, .slice B10 x.Replica.Doers.length d10, .slice B11 x.Send.length d11] := by
    have := (blk_alloc (w.alloc (.cells #[.int .i64 x.Code, .int .i64 x.Replica.Id, .int .i64 x.Replica.Size, .int .i64 x.Replica.View, .bool x.Replica.Normal, .int .i64 x.Replica.Last, .slice A6 x.Replica.Log.length c6, .int .i64 x.Replica.Commit, .slice A8 x.Replica.Oks.length c8, .slice A9 x.Replica.Asks.length c9, .slice A10 x.Replica.Doers.length c10, .slice A11 x.Send.length c11] 61)) [.int .i64 x.Code, .int .i64 x.Replica.Id, .int .i64 x.Replica.Size, .int .i64 x.Replica.View, .bool x.Replica.Normal, .int .i64 x.Replica.Last, .slice B6 x.Replica.Log.length d6, .int .i64 x.Replica.Commit, .slice B8 x.Replica.Oks.length d8, .slice B9 x.Replica.Asks.length d9, .slice B10 x.Replica.Doers.length d10, .slice B11 x.Send.length d11] 61).below hb1
    rwa [Deep.nblk_alloc] at this
  have bw : Below w.heap.size w w1 := by repeat (first | (with_reducible assumption) | (with_reducible exact Below.refl _ _) | (with_reducible apply below_alloc) | (with_reducible apply below_drewN) | (with_reducible apply Below.drew) | (with_reducible refine below_set ?_ (by dsimp only; omega) _) | (with_reducible refine below_trans ?_ (by assumption)))
  have q := X.cell (j := 11) rfl
  have p := Y.cell (j := 11) rfl
  go_wp2_with fail
  refine (eqMailS_c x.Send _ _ _ _ _ (h11.below bw) (k11.below bw)).mono ?_
  rintro e w2 ⟨rfl, hb2⟩
  go_wp2_with fail
  go_ret
  exact ⟨rfl, below_trans bw hb2⟩
theorem ctL_bound {α : Type} {ct : α → Nat} {m : Nat} : ∀ {xs : List α}, (∀ x ∈ xs, ct x ≤ m) → ctL ct xs ≤ xs.length * m
  | [], _ => by simp [ctL]
  | x :: xs, h => by
    have h1 := h x (by simp)
    have h2 := ctL_bound (xs := xs) (fun y hy => h y (by simp [hy]))
    simp only [ctL, List.length_cons, Nat.succ_mul]
    omega
theorem ctEntries (xs : List SEntry) : ctL ctEntry xs ≤ xs.length * 6 := ctL_bound (fun x _ => by simp [ctEntry])
theorem ctRep_small {n : SReplica} (h : SmallRep n) : ctL ctEntry n.Log + ctL ctI n.Oks + ctL ctB n.Asks + ctL ctDoer n.Doers ≤ 20000000000000 := by
  obtain ⟨h1, h2, h3, h4, h5⟩ := h
  have e1 := ctEntries n.Log
  have e2 : ctL ctI n.Oks ≤ n.Oks.length * 1 := ctL_bound (fun x _ => by simp [ctI])
  have e3 : ctL ctB n.Asks ≤ n.Asks.length * 1 := ctL_bound (fun x _ => by simp [ctB])
  have e4 : ctL ctDoer n.Doers ≤ n.Doers.length * 6291459 := ctL_bound (fun x hx => by have := h5 x hx; have := ctEntries x.Log; simp only [ctDoer]; omega)
  omega
/-- Mails few enough to be marked. -/
def SmallMails (ms : List SMail) : Prop := ms.length ≤ 1048576 ∧ ∀ m ∈ ms, m.Log.length ≤ 1048576
theorem ctMails_small {ms : List SMail} (h : SmallMails ms) : ctL ctMail ms ≤ 20000000000000 := by
  obtain ⟨h1, h2⟩ := h
  have e : ctL ctMail ms ≤ ms.length * 6291470 := ctL_bound (fun x hx => by have := h2 x hx; have := ctEntries x.Log; simp only [ctMail]; omega)
  omega
theorem totRep_small {n : SReplica} (h : totReplica n ≤ 1048576) : SmallRep n := by
  unfold totReplica totL at h
  refine ⟨by omega, by omega, by omega, by omega, fun d hd => ?_⟩
  have h1 : totDoer d ≤ (n.Doers.map totDoer).sum := by
    obtain ⟨k, hk, rfl⟩ := List.getElem_of_mem hd
    have h1 := totL_take totDoer n.Doers k hk
    have h2 := totL_le totDoer n.Doers (k + 1)
    omega
  have h2 : totDoer d = d.Log.length := rfl
  omega
theorem allTo_small (i v kind s : Nat) (hs : s ≤ 5) : SmallMails (allTo (fun k => mailK i v kind k) i s) := by
  refine ⟨Nat.le_trans (allTo_len _ _ _) (by omega), fun m hm => ?_⟩
  unfold allTo at hm
  obtain ⟨k, _, rfl⟩ := List.mem_map.1 hm
  simp [mailK]
theorem small_zero : SmallRep zReplica := ⟨by simp [zReplica], by simp [zReplica], by simp [zReplica], by simp [zReplica], by simp [zReplica]⟩
theorem small_none : SmallMails [] := ⟨by simp, by simp⟩
theorem crashX_small (n : SReplica) : SmallRep (crashX n).Replica ∧ SmallMails (crashX n).Send := by
  unfold crashX
  cases q : (repF n != 0) with
  | true => exact ⟨small_zero, small_none⟩
  | false => exact ⟨crashR_small (repF_nums q), small_none⟩
theorem timeoutX_small (n : SReplica) : SmallRep (timeoutX n).Replica ∧ SmallMails (timeoutX n).Send := by
  unfold timeoutX
  cases q : (repF n != 0) with
  | true => exact ⟨small_zero, small_none⟩
  | false =>
    have hf := repF_nums q
    cases q2 : (n.View == 200) with
    | true => exact ⟨small_zero, small_none⟩
    | false =>
      refine ⟨timeoutR_small hf, ?_⟩
      simp only [Bool.false_eq_true, if_false]
      unfold timeoutM
      split
      · exact small_none
      · exact allTo_small _ _ 3 _ hf.le
theorem ownReplica_parts {B : Nat} {w : World} {fp : List Nat} {n : SReplica} {A5 A7 A8 A9 : Option Addr} {l5 l7 l8 l9 c5 c7 c8 c9 : Nat} (h : kReplica.Own B w fp [.int .i64 n.Id, .int .i64 n.Size, .int .i64 n.View, .bool n.Normal, .int .i64 n.Last, .slice A5 l5 c5, .int .i64 n.Commit, .slice A7 l7 c7, .slice A8 l8 c8, .slice A9 l9 c9] n) (nd : fp.Nodup) :
    ∃ f5 f7 f8 f9, fp = f5 ++ (f7 ++ (f8 ++ f9)) ∧ HasReplica B w n A5 c5 A7 c7 A8 c8 A9 c9 f5 f7 f8 f9 := by
  obtain ⟨B5, d5, B7, d7, B8, d8, B9, d9, f5, f7, f8, f9, he, hf, h1, h2, h3, h4⟩ := kReplica_own h
  simp only [List.cons.injEq, Value.slice.injEq, and_true, true_and] at he
  obtain ⟨⟨rfl, _, rfl⟩, ⟨rfl, _, rfl⟩, ⟨rfl, _, rfl⟩, ⟨rfl, _, rfl⟩⟩ := he
  exact ⟨f5, f7, f8, f9, hf, h1, h2, h3, h4, by rw [← hf]; exact nd⟩
end Go.Proofs.Ytfffbjeaebmhbaa
