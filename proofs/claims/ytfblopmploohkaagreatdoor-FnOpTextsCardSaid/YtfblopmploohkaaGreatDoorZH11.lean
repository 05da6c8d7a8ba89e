/- Two nodes' results that read alike; bounds of marks; what a copy gives to read (own work). -/
import Derived.Test.YtfblopmploohkaaGreatDoorZK
import Derived.Test.YtfblopmploohkaaGreatDoorZM
import Derived.Test.YtfblopmploohkaaGreatDoorZD
set_option linter.unusedVariables false
set_option linter.unusedSimpArgs false
namespace Go.Proofs.YtfblopmploohkaaGreatDoor
open Go Go.RowKit Mk
theorem ctL_bound {α : Type} {ct : α → Nat} {m : Nat} : ∀ {xs : List α}, (∀ x ∈ xs, ct x ≤ m) → ctL ct xs ≤ xs.length * m
  | [], _ => by simp [ctL]
  | x :: xs, h => by
    have h1 := h x (by simp)
    have h2 := ctL_bound (xs := xs) (fun y hy => h y (by simp [hy]))
    simp only [ctL, List.length_cons, Nat.succ_mul]
    omega
theorem ctEntries (xs : List SEntry) : ctL ctEntry xs ≤ xs.length * 6 := ctL_bound (fun x _ => by simp [ctEntry])
theorem ctRep_small {n : SReplica} (h : SmallRep n) : ctL ctEntry n.Log + ctL ctI n.Oks + ctL ctB n.Asks + ctL ctDoer n.Doers ≤ 20000000000000 := by
  obtain ⟨h1, h2, h3, h4, h5⟩ := h
  have e1 := ctEntries n.Log
  have e2 : ctL ctI n.Oks ≤ n.Oks.length * 1 := ctL_bound (fun x _ => by simp [ctI])
  have e3 : ctL ctB n.Asks ≤ n.Asks.length * 1 := ctL_bound (fun x _ => by simp [ctB])
  have e4 : ctL ctDoer n.Doers ≤ n.Doers.length * 6291459 := ctL_bound (fun x hx => by have := h5 x hx; have := ctEntries x.Log; simp only [ctDoer]; omega)
  omega
/-- Mails few enough to be marked. -/
def SmallMails (ms : List SMail) : Prop := ms.length ≤ 1048576 ∧ ∀ m ∈ ms, m.Log.length ≤ 1048576
theorem ctMails_small {ms : List SMail} (h : SmallMails ms) : ctL ctMail ms ≤ 20000000000000 := by
  obtain ⟨h1, h2⟩ := h
  have e : ctL ctMail ms ≤ ms.length * 6291470 := ctL_bound (fun x hx => by have := h2 x hx; have := ctEntries x.Log; simp only [ctMail]; omega)
  omega
theorem totRep_small {n : SReplica} (h : totReplica n ≤ 1048576) : SmallRep n := by
  unfold totReplica totL at h
  refine ⟨by omega, by omega, by omega, by omega, fun d hd => ?_⟩
  have h1 : totDoer d ≤ (n.Doers.map totDoer).sum := by
    obtain ⟨k, hk, rfl⟩ := List.getElem_of_mem hd
    have h1 := totL_take totDoer n.Doers k hk
    have h2 := totL_le totDoer n.Doers (k + 1)
    omega
  have h2 : totDoer d = d.Log.length := rfl
  omega
theorem allTo_small (i v kind s : Nat) (hs : s ≤ 5) : SmallMails (allTo (fun k => mailK i v kind k) i s) := by
  refine ⟨Nat.le_trans (allTo_len _ _ _) (by omega), fun m hm => ?_⟩
  unfold allTo at hm
  obtain ⟨k, _, rfl⟩ := List.mem_map.1 hm
  simp [mailK]
theorem small_zero : SmallRep zReplica := ⟨by simp [zReplica], by simp [zReplica], by simp [zReplica], by simp [zReplica], by simp [zReplica]⟩
theorem small_none : SmallMails [] := ⟨by simp, by simp⟩
theorem crashX_small (n : SReplica) : SmallRep (crashX n).Replica ∧ SmallMails (crashX n).Send := by
  unfold crashX
  cases q : (repF n != 0) with
  | true => exact ⟨small_zero, small_none⟩
  | false => exact ⟨crashR_small (repF_nums q), small_none⟩
theorem timeoutX_small (n : SReplica) : SmallRep (timeoutX n).Replica ∧ SmallMails (timeoutX n).Send := by
  unfold timeoutX
  cases q : (repF n != 0) with
  | true => exact ⟨small_zero, small_none⟩
  | false =>
    have hf := repF_nums q
    cases q2 : (n.View == 200) with
    | true => exact ⟨small_zero, small_none⟩
    | false =>
      refine ⟨timeoutR_small hf, ?_⟩
      simp only [Bool.false_eq_true, if_false]
      unfold timeoutM
      split
      · exact small_none
      · exact allTo_small _ _ 3 _ hf.le
theorem ownReplica_parts {B : Nat} {w : World} {fp : List Nat} {n : SReplica} {A5 A7 A8 A9 : Option Addr} {l5 l7 l8 l9 c5 c7 c8 c9 : Nat} (h : kReplica.Own B w fp [.int .i64 n.Id, .int .i64 n.Size, .int .i64 n.View, .bool n.Normal, .int .i64 n.Last, .slice A5 l5 c5, .int .i64 n.Commit, .slice A7 l7 c7, .slice A8 l8 c8, .slice A9 l9 c9] n) (nd : fp.Nodup) :
    ∃ f5 f7 f8 f9, fp = f5 ++ (f7 ++ (f8 ++ f9)) ∧ HasReplica B w n A5 c5 A7 c7 A8 c8 A9 c9 f5 f7 f8 f9 := by
  obtain ⟨B5, d5, B7, d7, B8, d8, B9, d9, f5, f7, f8, f9, he, hf, h1, h2, h3, h4⟩ := kReplica_own h
  simp only [List.cons.injEq, Value.slice.injEq, and_true, true_and] at he
  obtain ⟨⟨rfl, _, rfl⟩, ⟨rfl, _, rfl⟩, ⟨rfl, _, rfl⟩, ⟨rfl, _, rfl⟩⟩ := he
  exact ⟨f5, f7, f8, f9, hf, h1, h2, h3, h4, by rw [← hf]; exact nd⟩
end Go.Proofs.YtfblopmploohkaaGreatDoor
