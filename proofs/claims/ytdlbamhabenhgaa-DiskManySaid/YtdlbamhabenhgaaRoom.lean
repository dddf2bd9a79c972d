/- DiskRoom: what Append answers where there is no fuse (a plain law). -/
import Derived.Test.YtdlbamhabenhgaaKeepsW
namespace Go.Proofs.Ytdlbamhabenhgaa
open Go.RowKit Go.Sat Go.Maps

/-- A disk of a law that burns no fuse, with at most k files. -/
structure Easy (D : DiskM) (room k : Nat) : Prop where
  ok : D.OK
  room : D.room = room
  fuse : D.fuse = none
  len : D.files.length ≤ k

theorem Easy.may {D : DiskM} {room k : Nat} (h : Easy D room k) {n : Bs} (hn : okN n = true) : D.may [n] = 0 := by
  simp [DiskM.may, h.fuse, hn]

theorem Easy.none {D : DiskM} {room k : Nat} (h : Easy D room k) (hk : k < 4096) {n b : Bs} (hn : okN n = true) (hb : room < D.used + b.length) : D.append n b = (D, 6) := by
  have hm := h.may hn
  have hf : D.full n b = true := by
    simp only [DiskM.full, h.room, decide_eq_true hb]
    rfl
  unfold DiskM.append
  rw [if_neg (by rw [hm]; simp), if_pos hf]

theorem Easy.some {D : DiskM} {room k : Nat} (h : Easy D room k) (hk : k < 4096) {n b : Bs} (hn : okN n = true) (hb : D.used + b.length ≤ room) :
    ∃ D', D.append n b = (D', 0) ∧ Easy D' room (k + 1) ∧ dataOf (Sat.get n D'.files) = dataOf (Sat.get n D.files) ++ b := by
  have hm := h.may hn
  have hl := h.len
  have hf : D.full n b = false := by
    have h1 : ¬ (room < D.used + b.length) := by omega
    have h2 : ¬ (4096 ≤ D.files.length) := by omega
    simp only [DiskM.full, h.room, decide_eq_false h1, decide_eq_false h2]
    simp
  have hok := ok_done (ok_append h.ok hm hf)
  refine ⟨DiskM.done { D with files := put n ⟨(D.cur n).data ++ b, (D.cur n).lasts⟩ D.files }, ?_, ⟨hok, h.room, ?_, ?_⟩, ?_⟩
  · unfold DiskM.append
    rw [if_neg (by rw [hm]; simp), if_neg (by rw [hf]; simp)]
  · simp [DiskM.done, h.fuse]
  · simp only [DiskM.done, len_put]
    have := len_del_le n D.files
    omega
  · simp only [DiskM.done, get_put_same h.ok.srt, DiskM.cur, dataOf]
    cases Sat.get n D.files <;> simp

theorem got_le {D : DiskM} (h : D.OK) (n : Bs) : (dataOf (Sat.get n D.files)).length ≤ D.used := by
  cases hg : Sat.get n D.files with
  | none => simp [dataOf]
  | some f =>
    have := sum_del (f := DiskM.size) h.srt hg
    simp only [dataOf, Option.map_some, Option.getD_some, DiskM.used]
    rw [this]
    simp only [DiskM.size]
    omega

theorem easy_fresh (n : Nat) (h : n ≤ 1073741824) : Easy (DiskM.fresh n) n 0 := ⟨ok_fresh n h, rfl, rfl, Nat.le_refl _⟩
end Go.Proofs.Ytdlbamhabenhgaa
