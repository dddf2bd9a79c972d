/- What keep.Save leaves on a disk with room (plain laws). -/
import Derived.Test.YtdlbamhabenhgaaClearW
namespace Go.Sat
theorem del_put {α : Type} {L : List (Bs × α)} (h : Srt L) (n : Bs) (a : α) : del n (put n a L) = del n L := by
  refine srt_ext (srt_del (srt_put h)) (srt_del h) fun m => ?_
  by_cases e : m = n
  · subst e
    rw [get_del_same, get_del_same]
  · rw [get_del_other (srt_put h) e, get_put_other h a e, get_del_other h e]

theorem put_put {α : Type} {L : List (Bs × α)} (h : Srt L) (n : Bs) (a b : α) : put n b (put n a L) = put n b L := by
  show ins (n, b) (del n (put n a L)) = ins (n, b) (del n L)
  rw [del_put h]
end Go.Sat

namespace Go.Proofs.Ytdlbamhabenhgaa
open Go.RowKit Go.Sat Go.Maps

theorem shadow_len (n : Bs) : (shadowN n).length = n.length + 1 := by simp [shadowN]
theorem shadow_ne (n : Bs) : n ≠ shadowN n := fun e => by
  have := congrArg List.length e
  rw [shadow_len] at this
  omega

/-- So many steps behind. -/
def offF (f : Option Nat) (k : Nat) : Option Nat := f.map (· - k)

section
variable {D : DiskM} {n l : Bs}

theorem save_app (_h : D.OK) (hf : D.fuse ≠ some 0) (hn1 : 1 ≤ n.length) (hn : n.length ≤ 60) (hsh : Sat.get (shadowN n) D.files = none) (hroom : D.used + l.length + 12 ≤ D.room) (hc : D.files.length < 4096) :
    D.append (shadowN n) (frameN l) = (⟨D.room, put (shadowN n) ⟨frameN l, 0⟩ D.files, offF D.fuse 1⟩, 0) := by
  have hm : D.may [shadowN n] = 0 := by
    unfold DiskM.may
    rw [if_neg hf, if_pos]
    simp only [List.all_cons, List.all_nil, Bool.and_true, okN, shadow_len]
    simp; omega
  have hfu : D.full (shadowN n) (frameN l) = false := by
    unfold DiskM.full
    rw [frame_len, hsh]
    simp; omega
  unfold DiskM.append
  rw [if_neg (by rw [hm]; simp), if_neg (by rw [hfu]; simp)]
  have hcur : D.cur (shadowN n) = ⟨[], 0⟩ := by unfold DiskM.cur; rw [hsh]; rfl
  rw [hcur]
  rfl

theorem save_syn {room : Nat} {L : List (Bs × FileM)} {f : Option Nat} (h : Srt L) (hf : f ≠ some 0) (hn1 : 1 ≤ n.length) (hn : n.length ≤ 60) :
    DiskM.sync ⟨room, put (shadowN n) ⟨frameN l, 0⟩ L, f⟩ [shadowN n] = (⟨room, put (shadowN n) ⟨frameN l, (frameN l).length⟩ L, offF f 1⟩, 0) := by
  have hm : DiskM.may ⟨room, put (shadowN n) ⟨frameN l, 0⟩ L, f⟩ [shadowN n] = 0 := by
    unfold DiskM.may
    rw [if_neg hf, if_pos]
    simp only [List.all_cons, List.all_nil, Bool.and_true, okN, shadow_len]
    simp; omega
  have h1 : DiskM.each1 DiskM.gSync ⟨room, put (shadowN n) ⟨frameN l, 0⟩ L, f⟩ (shadowN n) = (⟨room, put (shadowN n) ⟨frameN l, (frameN l).length⟩ L, offF f 1⟩, 0) := by
    unfold DiskM.each1
    rw [if_neg (by rw [hm]; simp)]
    have hg : Sat.get (shadowN n) (DiskM.files ⟨room, put (shadowN n) ⟨frameN l, 0⟩ L, f⟩) = some ⟨frameN l, 0⟩ := get_put_same h _ _
    rw [hg]
    show ((⟨room, put _ _ (put _ _ L), _⟩ : DiskM), 0) = _
    rw [put_put h]
    rfl
  show (if (DiskM.each1 _ _ _).2 = 0 then _ else _) = _
  rw [h1, if_pos rfl]
  rfl

theorem save_ren {room : Nat} {L : List (Bs × FileM)} {f : Option Nat} {g : FileM} (h : Srt L) (hf : f ≠ some 0) (hn1 : 1 ≤ n.length) (hn : n.length ≤ 60) (hsh : Sat.get (shadowN n) L = none) :
    DiskM.rename ⟨room, put (shadowN n) g L, f⟩ (shadowN n) n = (⟨room, put n g L, offF f 1⟩, 0) := by
  have hm : DiskM.may ⟨room, put (shadowN n) g L, f⟩ [shadowN n, n] = 0 := by
    unfold DiskM.may
    rw [if_neg hf, if_pos]
    simp only [List.all_cons, List.all_nil, Bool.and_true, okN, shadow_len]
    simp; omega
  unfold DiskM.rename
  rw [if_neg (by rw [hm]; simp)]
  have hg : Sat.get (shadowN n) (DiskM.files ⟨room, put (shadowN n) g L, f⟩) = some g := get_put_same h _ _
  rw [hg]
  show ((⟨room, put n g (del (shadowN n) (put (shadowN n) g L)), _⟩ : DiskM), 0) = _
  rw [del_put h, del_none hsh]
  rfl

theorem off_ne {f : Option Nat} {k : Nat} (hf : ∀ j, f = some j → k < j) : offF f k ≠ some 0 := by
  cases f with
  | none => intro h; cases h
  | some j =>
    have := hf j rfl
    intro h
    have := Option.some.inj (show some (j - k) = some 0 from h)
    omega
theorem off_off (f : Option Nat) (a b : Nat) : offF (offF f a) b = offF f (a + b) := by
  cases f with
  | none => rfl
  | some j => exact congrArg some (Nat.sub_sub _ _ _)

theorem save_room (hn1 : 1 ≤ n.length) (hn : n.length ≤ 60) : D.save n l = D.save1 n (frameN l) := by
  unfold DiskM.save
  rw [if_neg (by omega)]

/-- A Save that is done: three steps of the fuse. -/
theorem save_all (h : D.OK) (hf : ∀ j, D.fuse = some j → 3 ≤ j) (hn1 : 1 ≤ n.length) (hn : n.length ≤ 60) (hsh : Sat.get (shadowN n) D.files = none) (hroom : D.used + l.length + 12 ≤ D.room) (hc : D.files.length < 4096) :
    D.save n l = (⟨D.room, put n ⟨frameN l, (frameN l).length⟩ D.files, offF D.fuse 3⟩, 0) := by
  have h0 : D.save0 n = (D, 0) := by unfold DiskM.save0; rw [hsh]; rfl
  have hz : D.fuse ≠ some 0 := fun e => by have := hf 0 e; omega
  rw [save_room hn1 hn, save1_ren h0 (save_app h hz hn1 hn hsh hroom hc) (save_syn h.srt (off_ne fun j e => by have := hf j e; omega) hn1 hn), off_off,
    save_ren h.srt (off_ne fun j e => by have := hf j e; omega) hn1 hn hsh, off_off]

theorem may_burn {D : DiskM} (hf : D.fuse = some 0) (ns : List Bs) : D.may ns = 9 := by unfold DiskM.may; rw [if_pos hf]

/-- A Save that the fuse cuts off: what has the name stays. -/
theorem save_cut (h : D.OK) {j : Nat} (hf : D.fuse = some j) (hj : j < 3) (hn1 : 1 ≤ n.length) (hn : n.length ≤ 60) (hsh : Sat.get (shadowN n) D.files = none) (hroom : D.used + l.length + 12 ≤ D.room) (hc : D.files.length < 4096) :
    ∃ D', D.save n l = (D', 9) ∧ Sat.get n D'.files = Sat.get n D.files := by
  have h0 : D.save0 n = (D, 0) := by unfold DiskM.save0; rw [hsh]; rfl
  rw [save_room hn1 hn]
  by_cases hj0 : j = 0
  · subst hj0
    refine ⟨D, ?_, rfl⟩
    refine save1_app h0 ?_ (by decide)
    unfold DiskM.append
    rw [may_burn hf, if_pos (by decide)]
  · have hz : D.fuse ≠ some 0 := by rw [hf]; intro e; exact hj0 (Option.some.inj e)
    have ha := save_app (l := l) h hz hn1 hn hsh hroom hc
    by_cases hj1 : j = 1
    · subst hj1
      refine ⟨⟨D.room, put (shadowN n) ⟨frameN l, 0⟩ D.files, offF D.fuse 1⟩, save1_syn h0 ha ?_ (by decide), get_put_other h.srt _ (shadow_ne n)⟩
      have hm : DiskM.may ⟨D.room, put (shadowN n) ⟨frameN l, 0⟩ D.files, offF D.fuse 1⟩ [shadowN n] = 9 := may_burn (by rw [hf]; rfl) _
      have h1 : DiskM.each1 DiskM.gSync ⟨D.room, put (shadowN n) ⟨frameN l, 0⟩ D.files, offF D.fuse 1⟩ (shadowN n) = (⟨D.room, put (shadowN n) ⟨frameN l, 0⟩ D.files, offF D.fuse 1⟩, 9) := by
        unfold DiskM.each1
        rw [hm, if_pos (by decide)]
      show (if (DiskM.each1 _ _ _).2 = 0 then _ else _) = _
      rw [h1, if_neg (by simp)]
    · have hj2 : j = 2 := by omega
      subst hj2
      have hs := save_syn (l := l) (room := D.room) h.srt (f := offF D.fuse 1) (off_ne fun j e => by rw [hf] at e; cases e; omega) hn1 hn
      rw [save1_ren h0 ha hs]
      refine ⟨⟨D.room, put (shadowN n) ⟨frameN l, (frameN l).length⟩ D.files, offF (offF D.fuse 1) 1⟩, ?_, get_put_other h.srt _ (shadow_ne n)⟩
      unfold DiskM.rename
      rw [may_burn (by rw [hf]; rfl), if_pos (by decide)]
end
end Go.Proofs.Ytdlbamhabenhgaa
