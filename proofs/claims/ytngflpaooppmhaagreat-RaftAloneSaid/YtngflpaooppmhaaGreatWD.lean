/- The contract of Truncate. The contract of keep.Clear. The contract of keep.Clear: the walk. What keep.Save leaves on a disk with room (plain laws). DiskKeeps: the walk. What keep.Load says of what keep.Save left, behind a crash too; rows that are laid out; a nil disk. A ledger in memory; the contracts of ledger's has, removes, imageName, logName. A ledger of a law's own, its disk, and blocks (F) that neither has. A journal (a plain model): its records, what a disk opens as, what each change leaves. What the records of a journal say when they are read again (plain laws). A journal in memory, its disk, and blocks (F) that neither has. journal: isTermOf, isGroup, isOne, own. (Printed by mkj1.py.) The contract of frame.Scan. journal: isOne, own, may, Term, Base, mayVote, ended. (Printed by mkj2.py.) journal: own, may, Term, Base, Last, has, mayVote, ended. (Printed by mkj3.py.) -/
import Derived.Test.YtngflpaooppmhaaGreatShelf
import Derived.Test.YtngflpaooppmhaaGreatWB
import Derived.Test.YtngflpaooppmhaaGreatWC
namespace Go.Sat
open Go.RowKit
theorem own_cut {w : World} {e : TypeId} {p : Option Addr} {n c : Nat} {l : Bs} (h : OwnB w e (.slice p n c) l) {y : Nat} (hy : y ≤ l.length) : OwnB w e (.slice p y y) (l.take y) := by
  have hl : (l.take y).length = y := by rw [List.length_take]; omega
  unfold OwnB
  rw [hl]
  refine ⟨by rw [bytesV_len, hl]; omega, ?_⟩
  rcases h.2 with ⟨e1, hn⟩ | ⟨g, cap, cur, e1, hg, hnc, hcm, hcs, ht⟩
  · cases e1
    have hy0 : y = 0 := by omega
    subst hy0
    exact .inl ⟨rfl, rfl⟩
  · cases e1
    refine .inr ⟨g, y, cur, rfl, hg, Nat.le_refl _, by omega, by omega, ?_⟩
    rw [bytesV_take, ← ht, List.take_take]
    congr 1
    omega
end Go.Sat

namespace Go.Proofs.YtngflpaooppmhaaGreat
open Go.RowKit Go.Sat Go.Maps

theorem ok_trunc {D : DiskM} (h : D.OK) {n : Bs} {f : FileM} (hg : Sat.get n D.files = some f) (k : Nat) : DiskM.OK { D with files := put n ⟨f.data.take k, min f.lasts k⟩ D.files } where
  srt := srt_put h.srt
  room := h.room
  used := by
    show sumBy DiskM.size (put n _ D.files) ≤ D.room
    rw [sum_put]
    have h1 : D.used = DiskM.size f + sumBy DiskM.size (del n D.files) := sum_del h.srt hg
    have := h.used
    simp only [DiskM.size, List.length_take] at h1 ⊢
    omega
  count := by
    show (put n _ D.files).length ≤ 4096
    rw [len_put]
    have := len_del h.srt hg
    have := h.count
    omega
  names p hp := by
    rcases mem_put.1 hp with rfl | ⟨hp, _⟩
    · exact (h.names (n, f) (get_mem hg) : okN n = true)
    · exact h.names p hp
  lasts p hp := by
    rcases mem_put.1 hp with rfl | ⟨hp, _⟩
    · have h1 : f.lasts ≤ f.data.length := h.lasts (n, f) (get_mem hg)
      show min f.lasts k ≤ (f.data.take k).length
      rw [List.length_take]
      omega
    · exact h.lasts p hp
  fuse := h.fuse

section
variable {w : World} {d m : Nat} {left : Int} {L : List (Bs × FRep)} {own : Own} {D : DiskM}

set_option maxRecDepth 100000 in
set_option maxHeartbeats 2000000 in
theorem trunc_bad (h : DiskIn w d m left L own D) (o : ByteArray) (hso : o.size ≤ 9223372036854775807) (z : Int) (hm : D.may [nm o] ≠ 0) :
    Calls Tryz.prog 103 #[.pointer (some ⟨d, 0, none⟩), .string o, .int .i64 z] w (After w d own (D, D.may [nm o])) := by
  have h1 := h.chg (Chg.alloc w (.cells #[.string o] 9)) (fun k hk => hk.elim)
  have hc := may_calls h1 _ [o] 1 (strs_one w o) (by simp) (by simpa using hso)
  simp only [List.map_cons, List.map_nil] at hc
  have Hfin := Lib.hid (show After w d own (D, D.may [nm o]) (.returned (.int .i64 (D.may [nm o] : Int))) (w.alloc (.cells #[.string o] 9)) from
    ⟨own, rfl, ⟨m, left, L, h1⟩, (Chg.alloc w _).mono fun _ _ h => h.elim, ext_refl _ _⟩)
  generalize D.may [nm o] = e0 at *
  have hne : ((e0 : Int) != 0) = true := by simp; omega
  have Hc := Lib.hid hc
  clear h hc h1
  go_enter Tryz.func103, Tryz.ntmps103
  go_wp2_with fail
  refine Hc.out.mono ?_
  rintro e w' ⟨rfl, rfl⟩
  go_wp2_with fail
  go_ret
  exact Hfin.out

set_option maxRecDepth 100000 in
set_option maxHeartbeats 2000000 in
theorem trunc_none (h : DiskIn w d m left L own D) (o : ByteArray) (hso : o.size ≤ 9223372036854775807) (z : Int) (hm : D.may [nm o] = 0) (hg : Sat.get (nm o) L = none) :
    Calls Tryz.prog 103 #[.pointer (some ⟨d, 0, none⟩), .string o, .int .i64 z] w (After w d own (D, 7)) := by
  have h1 := h.chg (Chg.alloc w (.cells #[.string o] 9)) (fun k hk => hk.elim)
  have hc := may_calls h1 _ [o] 1 (strs_one w o) (by simp) (by simpa using hso)
  simp only [List.map_cons, List.map_nil, hm] at hc
  have hlook := run_look_none _ keyLaw Tryz.underlying9 Tryz.underlying60 (zeroFile _) FRep.fb h1.map hso hg
  have hc1 := h1.c1
  have Hfin := Lib.hid (show After w d own (D, 7) (.returned (.int .i64 (7 : Int))) (w.alloc (.cells #[.string o] 9)) from
    ⟨own, rfl, ⟨m, left, L, h1⟩, (Chg.alloc w _).mono fun _ _ h => h.elim, ext_refl _ _⟩)
  have Hc := Lib.hid hc
  have Hlook := Lib.hid hlook
  have Hc1 := Lib.hid hc1
  clear h hc h1 hlook hc1
  generalize hw0 : w.alloc (.cells #[.string o] 9) = w0 at *
  go_enter Tryz.func103, Tryz.ntmps103
  go_wp2_with fail
  have hlook := Hlook.out
  have hc1 := Hc1.out
  refine Hc.out.mono ?_
  rintro e w' ⟨rfl, rfl⟩
  clear hw0
  go_wp2_with fail
  go_ret
  exact Hfin.out
set_option maxRecDepth 100000 in
set_option maxHeartbeats 4000000 in
theorem trunc_some (h : DiskIn w d m left L own D) (o : ByteArray) (hso : o.size ≤ 9223372036854775807) (z : Int) (hz : -9223372036854775808 ≤ z) (hz' : z ≤ 9223372036854775807) (hm : D.may [nm o] = 0) {r : FRep} (hg : Sat.get (nm o) L = some r) :
    Calls Tryz.prog 103 #[.pointer (some ⟨d, 0, none⟩), .string o, .int .i64 z] w (After w d own (if z < 0 ∨ (r.f.data.length : Int) < z then (D, 1) else (DiskM.done { D with files := put (nm o) ⟨r.f.data.take z.toNat, min r.f.lasts z.toNat⟩ D.files }, 0))) := by
  have h1 := h.chg (Chg.alloc w (.cells #[.string o] 9)) (fun k hk => hk.elim)
  have hc := may_calls h1 _ [o] 1 (strs_one w o) (by simp) (by simpa using hso)
  simp only [List.map_cons, List.map_nil, hm] at hc
  have hlook := run_look_some _ keyLaw Tryz.underlying9 Tryz.underlying60 (zeroFile _) FRep.fb h1.map hso hg
  have hc1 := h1.c1
  have hkey := WideMaps.keyOf_string_mk Tryz.underlying9 hso
  have hzf := may_zero hm
  have hgD : Sat.get (nm o) D.files = some r.f := by rw [h.get, hg]; rfl
  have hr := h1.fileAt hg
  have hlm : r.f.data.length ≤ 1073741824 := by
    have h5 : DiskM.size r.f ≤ D.used := le_sum h.ok.srt hgD
    have h6 := h.ok.used
    have h7 := h.ok.room
    unfold DiskM.size at h5
    omega
  obtain ⟨pv, cv, ev, hmc⟩ : ∃ p c, r.v = .slice p r.f.data.length c ∧ r.f.data.length ≤ c := by
    rcases hr.row.2 with ⟨e, hn⟩ | ⟨g, cap, cur, e, _, hnc, _⟩
    · exact ⟨none, 0, by rw [e, hn], by omega⟩
    · exact ⟨_, cap, e, hnc⟩
  have hcA := cell_of (i := 0) hr.cells rfl
  have hcB := cell_of (i := 1) hr.cells rfl
  have hfA := frozen_of hr.cells 0
  have hfB := frozen_of hr.cells 1
  rw [ev] at hcA
  by_cases hb : z < 0 ∨ (r.f.data.length : Int) < z
  · rw [if_pos hb]
    have Hfin := Lib.hid (show After w d own (D, 1) (.returned (.int .i64 ((1 : Nat) : Int))) (w.alloc (.cells #[.string o] 9)) from
      ⟨own, rfl, ⟨m, left, L, h1⟩, (Chg.alloc w _).mono fun _ _ h => h.elim, ext_refl _ _⟩)
    have Hc := Lib.hid hc
    generalize r.f.data.length = M at *
    clear h h1 hc hm hzf hg hgD hr hfA hfB ev
    generalize hw0 : w.alloc (.cells #[.string o] 9) = w0 at *
    by_cases hz0 : z < 0
    · go_enter Tryz.func103, Tryz.ntmps103
      go_wp2_with fail
      refine Hc.out.mono ?_
      rintro e w' ⟨rfl, rfl⟩
      clear hw0
      go_wp2_with fail
      go_ret
      exact Hfin.out
    · obtain ⟨y, rfl⟩ : ∃ y : Nat, z = (y : Int) := ⟨z.toNat, by omega⟩
      have hMy : M < y := by omega
      go_enter Tryz.func103, Tryz.ntmps103
      go_wp2_with fail
      refine Hc.out.mono ?_
      rintro e w' ⟨rfl, rfl⟩
      clear hw0
      go_wp2_with fail
      go_ret
      exact Hfin.out
  · rw [if_neg hb]
    obtain ⟨y, rfl⟩ : ∃ y : Nat, z = (y : Int) := ⟨z.toNat, by omega⟩
    rw [Int.toNat_natCast]
    have hyM : y ≤ r.f.data.length := by omega
    have hrow : OwnB (w.alloc (.cells #[.string o] 9)) 5 (.slice pv y y) (r.f.data.take y) := Go.Sat.own_cut (by rw [← ev]; exact hr.row) hyM
    have hof : own r.fb = some (2, nm o) := hr.ob
    have hog : ∀ g, (Value.slice pv y y).ownBlock = some g → own g = some (3, nm o) := fun g hgk => hr.og g (by rw [ev, ownBlock_slice pv _ _ y y]; exact hgk)
    have hv2 : OwnB (((w.alloc (.cells #[.string o] 9)).setCell ⟨r.fb, 0, none⟩ (.slice pv y y)).setCell ⟨r.fb, 1, none⟩ (.int .i64 ((min r.f.lasts y : Nat) : Int))) 5 (.slice pv y y) (r.f.data.take y) := OwnB.keep hrow fun k hk => by
      have hne : k ≠ r.fb := fun e => by
        have h1 := hog k hk
        rw [e, hof] at h1
        simp at h1
      exact (set_other _ hne).trans (set_other _ hne)
    obtain ⟨own', h4, hx⟩ := h1.upd hg (f' := ⟨r.f.data.take y, min r.f.lasts y⟩) (v' := .slice pv y y) (w' := ((w.alloc (.cells #[.string o] 9)).setCell ⟨r.fb, 0, none⟩ (.slice pv y y)).setCell ⟨r.fb, 1, none⟩ (.int .i64 ((min r.f.lasts y : Nat) : Int)))
      (by simp [World.setCell]) (fun k _ hne _ => (set_other _ hne).trans (set_other _ hne)) (set_block (set_block hr.cells 0 _) 1 _) hv2
      (fun g hgk => .inl (by rw [ev, ownBlock_slice pv _ _ y y]; exact hgk)) (ok_trunc h.ok hgD y)
    have hchg : Chg (Has own) w (((w.alloc (.cells #[.string o] 9)).setCell ⟨r.fb, 0, none⟩ (.slice pv y y)).setCell ⟨r.fb, 1, none⟩ (.int .i64 ((min r.f.lasts y : Nat) : Int))) := by
      have ho : Has own r.fb := by unfold Has; rw [hof]; simp
      refine (((Chg.alloc w _).mono (T := Has own) fun _ _ h => h.elim).trans (Chg.setCell _ ⟨r.fb, 0, none⟩ _) fun k _ e => ?_).trans (Chg.setCell _ ⟨r.fb, 1, none⟩ _) fun k _ e => ?_
      · rw [show k = r.fb from e]; exact ho
      · rw [show k = r.fb from e]; exact ho
    have hdone := done_calls h4 hzf.1
    have Hdone := Lib.hid hdone
    have Hchg := Lib.hid hchg
    have Hx := Lib.hid hx
    have Hsz := Lib.hid (Chg.alloc w (.cells #[.string o] 9)).size
    have Hod := Lib.hid (has_d h1)
    have Hc := Lib.hid hc
    obtain ⟨i0, hi, _⟩ := info_parts (show (Tryz.prog.info? 5).map (fun i => (i.zero, i.size, i.bytes)) = some (some (.int .u8 0), 1, 1) by kernel_rfl)
    have hsl : ∀ W, (Instr.slice 23 (.slice pv r.f.data.length cv) none (some (.int .i64 (y : Int))) (some (.int .i64 (y : Int)))).run Tryz.prog W = .ok (.slice pv y y) W := fun W => run_cut W Tryz.underlying23 hi pv _ cv y (by omega)
    have hmin : min (r.f.lasts : Int) (y : Int) = ((min r.f.lasts y : Nat) : Int) := by omega
    generalize hMM : r.f.data.length = M at *
    generalize r.f.lasts = la at *
    clear h h1 hc hm hzf hg hgD hr ev hrow hof hog hv2 h4 hx hchg hdone hMM
    generalize hw0 : w.alloc (.cells #[.string o] 9) = w0 at *
    go_enter Tryz.func103, Tryz.ntmps103
    go_wp2_with fail
    refine Hc.out.mono ?_
    rintro e w' ⟨rfl, rfl⟩
    clear hw0
    go_wp2_with fail
    refine Hdone.out.mono ?_
    rintro e w5 ⟨rfl, hd5, hc5⟩
    go_wp2_with fail
    go_ret
    exact ⟨own', rfl, hd5, Hchg.out.trans hc5 fun i _ e => by rw [e]; exact Hod.out, fun k hk => Hx.out k (Nat.lt_of_lt_of_le hk Hsz.out)⟩

/-- **Truncate.** -/
theorem trunc_calls (h : DiskAt w d D own) (o : ByteArray) (hso : o.size ≤ 9223372036854775807) (z : Int) (hz : -9223372036854775808 ≤ z) (hz' : z ≤ 9223372036854775807) :
    Calls Tryz.prog 103 #[.pointer (some ⟨d, 0, none⟩), .string o, .int .i64 z] w (After w d own (D.truncate (nm o) z)) := by
  obtain ⟨m, left, L, h⟩ := h
  unfold DiskM.truncate
  by_cases hm : D.may [nm o] = 0
  · rw [if_neg (by simpa using hm), h.get]
    cases hg : Sat.get (nm o) L with
    | none => exact trunc_none h o hso z hm hg
    | some r => exact trunc_some h o hso z hz hz' hm hg
  · rw [if_pos (by simpa using hm)]
    exact trunc_bad h o hso z hm
end

theorem st_trunc {w w1 : World} {d : Nat} {D : DiskM} {F : Nat → Prop} (h : St w w1 d D F) (s : ByteArray) (hss : s.size ≤ 9223372036854775807) (z : Int) (hz : -9223372036854775808 ≤ z) (hz' : z ≤ 9223372036854775807) :
    Calls Tryz.prog 103 #[.pointer (some ⟨d, 0, none⟩), .string s, .int .i64 z] w1 (Told w d F w1 (D.truncate (nm s) z)) := by
  obtain ⟨own, hd, hb, hnn, hF⟩ := h
  refine (trunc_calls hd s hss z hz hz').mono ?_
  rintro e w' ⟨own', rfl, hd', hc, hx⟩
  exact ⟨rfl, St.step hb hnn hF hd' hc hx⟩
end Go.Proofs.YtngflpaooppmhaaGreat

namespace Go.Sat
open Go.RowKit
/-- Names that begin with pre and are not to stay go. -/
def skipN (pre : Bs) (stay : List Bs) (n : Bs) : Bool := !(pre.isPrefixOf n) || stay.contains n
end Go.Sat

namespace Go.Proofs.YtngflpaooppmhaaGreat
open Go.RowKit Go.Sat Go.Maps

namespace DiskM
def clearL (pre : Bs) (stay : List Bs) (D : DiskM) : List Bs → DiskM × Nat
  | [] => (D, 0)
  | n :: r => if skipN pre stay n then clearL pre stay D r else if (D.remove [n]).2 = 0 then clearL pre stay (D.remove [n]).1 r else D.remove [n]
def clear (D : DiskM) (pre : Bs) (stay : List Bs) : DiskM × Nat := clearL pre stay D (namesOf D)

end DiskM

end Go.Proofs.YtngflpaooppmhaaGreat

namespace Go.Sat
theorem del_put {α : Type} {L : List (Bs × α)} (h : Srt L) (n : Bs) (a : α) : del n (put n a L) = del n L := by
  refine srt_ext (srt_del (srt_put h)) (srt_del h) fun m => ?_
  by_cases e : m = n
  · subst e
    rw [get_del_same, get_del_same]
  · rw [get_del_other (srt_put h) e, get_put_other h a e, get_del_other h e]

theorem put_put {α : Type} {L : List (Bs × α)} (h : Srt L) (n : Bs) (a b : α) : put n b (put n a L) = put n b L := by
  show ins (n, b) (del n (put n a L)) = ins (n, b) (del n L)
  rw [del_put h]
end Go.Sat

namespace Go.Proofs.YtngflpaooppmhaaGreat
open Go.RowKit Go.Sat Go.Maps

theorem shadow_len (n : Bs) : (shadowN n).length = n.length + 1 := by simp [shadowN]
/-- So many steps behind. -/
def offF (f : Option Nat) (k : Nat) : Option Nat := f.map (· - k)

section
variable {D : DiskM} {n l : Bs}

theorem save_ren {room : Nat} {L : List (Bs × FileM)} {f : Option Nat} {g : FileM} (h : Srt L) (hf : f ≠ some 0) (hn1 : 1 ≤ n.length) (hn : n.length ≤ 60) (hsh : Sat.get (shadowN n) L = none) :
    DiskM.rename ⟨room, put (shadowN n) g L, f⟩ (shadowN n) n = (⟨room, put n g L, offF f 1⟩, 0) := by
  have hm : DiskM.may ⟨room, put (shadowN n) g L, f⟩ [shadowN n, n] = 0 := by
    unfold DiskM.may
    rw [if_neg hf, if_pos]
    simp only [List.all_cons, List.all_nil, Bool.and_true, okN, shadow_len]
    simp; omega
  unfold DiskM.rename
  rw [if_neg (by rw [hm]; simp)]
  have hg : Sat.get (shadowN n) (DiskM.files ⟨room, put (shadowN n) g L, f⟩) = some g := get_put_same h _ _
  rw [hg]
  show ((⟨room, put n g (del (shadowN n) (put (shadowN n) g L)), _⟩ : DiskM), 0) = _
  rw [del_put h, del_none hsh]
  rfl

theorem off_ne {f : Option Nat} {k : Nat} (hf : ∀ j, f = some j → k < j) : offF f k ≠ some 0 := by
  cases f with
  | none => intro h; cases h
  | some j =>
    have := hf j rfl
    intro h
    have := Option.some.inj (show some (j - k) = some 0 from h)
    omega
theorem off_off (f : Option Nat) (a b : Nat) : offF (offF f a) b = offF f (a + b) := by
  cases f with
  | none => rfl
  | some j => exact congrArg some (Nat.sub_sub _ _ _)

end
end Go.Proofs.YtngflpaooppmhaaGreat

namespace Go.Proofs.YtngflpaooppmhaaGreat
open Go.RowKit Go.Sat Go.Maps

theorem stays_whole (b : Bs) (k : Int) : DiskM.stays ⟨b, b.length⟩ k = b.length := by
  show b.length + (max 0 k).toNat % (b.length - b.length + 1) = b.length
  rw [Nat.sub_self, Nat.zero_add, Nat.mod_one, Nat.add_zero]

theorem crash_whole (b : Bs) (k : Int) : DiskM.crashF k ⟨b, b.length⟩ = ⟨b, b.length⟩ := by
  show (⟨b.take (DiskM.stays ⟨b, b.length⟩ k), DiskM.stays ⟨b, b.length⟩ k⟩ : FileM) = _
  rw [stays_whole, List.take_length]

theorem load_frame (l : Bs) (h : l.length ≤ 1048576) (k : Nat) : loadE (some ⟨frameN l, k⟩) = 0 ∧ loadB (some ⟨frameN l, k⟩) = l := by
  have e : dataOf (some ⟨frameN l, k⟩) = frameN l := rfl
  rw [loadE_some, loadB_some, e, frame_oneE l h, frame_oneB l h]
  exact ⟨if_pos rfl, rfl⟩

end Go.Proofs.YtngflpaooppmhaaGreat

namespace Go.Proofs.YtngflpaooppmhaaGreat
open Go.RowKit Go.Sat Go.Maps

/-! ### A ledger in memory -/
section
variable {w w' : World} {l d : Nat} {pre : ByteArray} {own : Nat → Prop} {M : LedM} {dv ev : Value} {vs : List Value}

/-- Of a ledger's block alone. -/
def LedCells (l d : Nat) (pre : ByteArray) (w : World) : Prop := w.cell? ⟨l, 0, none⟩ = some (.pointer (some ⟨d, 0, none⟩)) ∧ w.cell? ⟨l, 1, none⟩ = some (.string pre) ∧ pre.size ≤ 20
end

def sLog (s : ByteArray) : ByteArray := s ++ ⟨#[45, 108, 111, 103]⟩
def sShadow (s : ByteArray) : ByteArray := s ++ ⟨#[126]⟩
theorem nm_log (s : ByteArray) : nm (sLog s) = logN (nm s) := by simp [nm, sLog, logN, logX]
theorem nm_sha (s : ByteArray) : nm (sShadow s) = shadowN (nm s) := nm_shadow s
theorem size_log (s : ByteArray) : (sLog s).size = s.size + 4 := by simp [sLog, ByteArray.size_append]; rfl
theorem size_sha (s : ByteArray) : (sShadow s).size = s.size + 1 := by simp [sShadow, ByteArray.size_append]; rfl

section
variable {w w1 : World} {l d : Nat} {pre : ByteArray} {D : DiskM} {F : Nat → Prop}

end
end Go.Proofs.YtngflpaooppmhaaGreat

namespace Go.Proofs.YtngflpaooppmhaaGreat
open Go.RowKit Go.Sat Go.Maps

theorem al_cell {w : World} {a : Addr} {v : Value} (h : w.cell? a = some v) (o : Obj) : (w.alloc o).cell? a = some v := (((Below.refl w.heap.size w).alloc (Nat.le_refl _) o).cell (World.block_lt_of_cell? w _ h)).trans h

theorem ownB_far {w w' : World} {e : TypeId} {v : Value} {b : Bs} (h : OwnB w e v b) (hb : Below w.heap.size w w') : OwnB w' e v b := OwnR.keep h fun k hk => hb.block k (OwnR.lt h hk)

theorem below_drew (w : World) : Below w.heap.size w w.drew := ⟨rfl, rfl, rfl, Nat.le_refl _, fun _ _ => rfl⟩
theorem below_one (w : World) (o : Obj) : Below w.heap.size w (w.alloc o) := (Below.refl _ _).alloc (Nat.le_refl _) o

section
variable {w w1 w2 : World} {l d : Nat} {pre : ByteArray} {D : DiskM} {M : LedM} {F F' : Nat → Prop}

end

theorem LedCells.same {l d : Nat} {pre : ByteArray} {w w' : World} (h : LedCells l d pre w) (hb : w'.heap[l]? = w.heap[l]?) : LedCells l d pre w' :=
  ⟨(World.cell?_of_block (a := ⟨l, 0, none⟩) hb).trans h.1, (World.cell?_of_block (a := ⟨l, 1, none⟩) hb).trans h.2.1, h.2.2⟩

section
variable {w w1 : World} {l d : Nat} {pre : ByteArray} {D : DiskM} {M : LedM} {F : Nat → Prop}

end
end Go.Proofs.YtngflpaooppmhaaGreat

namespace Go.Sat
namespace Rd
def ints : Nat → Rd → List Int × Rd
  | 0, R => ([], R)
  | k + 1, R => ((R.num.1 : Int) :: (ints k R.num.2).1, (ints k R.num.2).2)
def grp (may : List Int → Bool) (R : Rd) : List Int × Rd :=
  if 7 < R.num.1 then ([], fail) else ((ints R.num.1 R.num.2).1, if may (ints R.num.1 R.num.2).1 then (ints R.num.1 R.num.2).2 else fail)
end Rd
/-- Any nodes. -/
def anyG (_ : List Int) : Bool := true
end Go.Sat

namespace Go.Proofs.YtngflpaooppmhaaGreat
open Go.RowKit Go.Sat Go.Maps

/-- An entry. -/
structure Ent where
  term : Int
  kind : Int
  data : Bs
  nodes : List Int

structure JouM where
  number : Nat
  term : Int
  group : List Int
  now : Int
  vote : Int
  data : Bs
  entries : List Ent
  dead : Bool

def grpGo (prev : Int) : List Int → Bool
  | [] => true
  | n :: r => decide (prev < n ∧ n < 7) && grpGo n r
/-- Nodes that are a group. -/
def isGrp (l : List Int) : Bool := grpGo (-1) l && decide (1 ≤ l.length ∧ l.length ≤ 7)
def isTm (n : Int) : Bool := decide (0 ≤ n ∧ n ≤ 1099511627776)
def isEnt (e : Ent) : Bool :=
  isTm e.term && (if e.kind = 0 then decide (e.data = [] ∧ e.nodes = []) else if e.kind = 1 then decide (1 ≤ e.data.length ∧ e.data.length ≤ 65536 ∧ e.nodes = [])
    else if e.kind = 2 then decide (e.data = []) && isGrp e.nodes else false)

def snpX : Bs := [45, 115, 110, 97, 112]
def snpN (p : Bs) : Bs := p ++ snpX

/-! ### Records -/
def grpB (l : List Int) : Bs := numB l.length ++ numsI l
def fstB (n : Nat) (t : Int) (g : List Int) : Bs := 1 :: (numB n ++ numI t ++ grpB g)
def trmB (t v : Int) : Bs := 2 :: (numI t ++ numI (v + 1))
def entB (n : Nat) (e : Ent) : Bs := 3 :: (numB n ++ numI e.term ++ numI e.kind ++ rowB e.data ++ grpB e.nodes)
def snpB (n : Nat) (t : Int) (g : List Int) (b : Bs) : Bs := numB n ++ numI t ++ grpB g ++ rowB b

def entsB : Nat → List Ent → List Bs
  | _, [] => []
  | n, e :: r => entB (n + 1) e :: entsB (n + 1) r

namespace JouM
def none0 (g : List Int) : JouM := ⟨0, 0, g, 0, -1, [], [], false⟩
def last (M : JouM) : Nat := M.number + M.entries.length
def die (M : JouM) : JouM := { M with dead := true }
/-- The term of an entry, or of the base. -/
def termAt (M : JouM) (i : Int) : Option Int :=
  if i = (M.number : Int) then some M.term else if i < (M.number : Int) then none else (M.entries[(i - M.number - 1).toNat]?).map Ent.term
def lastT (M : JouM) : Int := match M.entries.getLast? with
  | some e => e.term
  | none => M.term
def mayVote (M : JouM) (t v : Int) : Bool := decide (M.now ≤ t ∧ t ≤ 1099511627776 ∧ -1 ≤ v ∧ v < 7) && !decide (t = M.now ∧ M.vote ≠ -1 ∧ v ≠ M.vote)
/-- The last entry that says a group, among so many. -/
def grpIn (M : JouM) : Nat → List Int × Nat
  | 0 => (M.group, M.number)
  | k + 1 => match M.entries[k]? with
    | some e => if e.kind = 2 then (e.nodes, M.number + k + 1) else grpIn M k
    | none => grpIn M k
def rows (M : JouM) : List Bs := fstB M.number M.term M.group :: trmB M.now M.vote :: entsB M.number M.entries
end JouM

/-- A record is done. -/
def rec1 (first : Bool) (M : JouM) (p : Bs) : Option JouM := match p with
  | [] => none
  | k :: r =>
    if first ≠ decide (k = 1) then none
    else if k = 1 then
      (if (Rd.num ⟨r, false⟩).2.num.2.grp isGrp |>.2.whole then
        if (Rd.num ⟨r, false⟩).1 ≤ 1099511627776 ∧ (Rd.num ⟨r, false⟩).2.num.1 ≤ 1099511627776 then
          some { M with number := (Rd.num ⟨r, false⟩).1, term := ((Rd.num ⟨r, false⟩).2.num.1 : Int), group := ((Rd.num ⟨r, false⟩).2.num.2.grp isGrp).1 } else none
      else none)
    else if k = 2 then
      (if (Rd.num ⟨r, false⟩).2.num.2.whole && M.mayVote ((Rd.num ⟨r, false⟩).1 : Int) (((Rd.num ⟨r, false⟩).2.num.1 : Int) - 1) then
        some { M with now := ((Rd.num ⟨r, false⟩).1 : Int), vote := (((Rd.num ⟨r, false⟩).2.num.1 : Int) - 1) } else none)
    else if k = 3 then
      (let R1 := Rd.num ⟨r, false⟩
       let R2 := R1.2.num
       let R3 := R2.2.num
       let R4 := R3.2.bytes
       let R5 := R4.2.grp anyG
       let e : Ent := ⟨R2.1, R3.1, R4.1, R5.1⟩
       if R5.2.whole ∧ R1.1 = M.last + 1 ∧ R1.1 ≤ 1099511627776 ∧ isEnt e then some { M with entries := M.entries ++ [e] } else none)
    else if k = 4 then
      (if (Rd.num ⟨r, false⟩).2.whole ∧ M.number < (Rd.num ⟨r, false⟩).1 ∧ (Rd.num ⟨r, false⟩).1 ≤ M.last + 1 then some { M with entries := M.entries.take ((Rd.num ⟨r, false⟩).1 - M.number - 1) } else none)
    else none

def recGo (M : JouM) : List Bs → Option JouM
  | [] => some M
  | p :: r => (rec1 false M p).bind fun M' => recGo M' r
def recAll (M : JouM) : List Bs → Option JouM
  | [] => none
  | p :: r => (rec1 true M p).bind fun M' => recGo M' r

/-- What a snapshot says. -/
structure Snap where
  number : Nat
  term : Int
  group : List Int
  data : Bs

def snapIs (b : Bs) : Option Snap :=
  let R1 := Rd.num ⟨b, false⟩
  let R2 := R1.2.num
  let R3 := R2.2.grp isGrp
  let R4 := R3.2.bytes
  if R4.2.whole ∧ 1 ≤ R1.1 ∧ R1.1 ≤ 1099511627776 ∧ R2.1 ≤ 1099511627776 ∧ R4.1.length ≤ 524288 then some ⟨R1.1, R2.1, R3.1, R4.1⟩ else none
def snapOf (o : Option FileM) : Nat × Option Snap :=
  if loadE o = 7 then (0, none) else if loadE o ≠ 0 then (loadE o, none) else match snapIs (loadB o) with
    | none => (3, none)
    | some s => (0, some s)

/-- A snapshot stands for all ahead of it. -/
def JouM.rebase (M : JouM) (s : Snap) : JouM :=
  { M with number := s.number, term := s.term, group := s.group, data := s.data, entries := if M.number < s.number ∧ M.termAt s.number = some s.term then M.entries.drop (s.number - M.number) else [] }

/-- The log is written anew. -/
def writesJ (D : DiskM) (pre : Bs) (M : JouM) : DiskM × Nat := D.save1 (logN pre) (recsB M.rows)

/-- What a log says: the disk behind it, an error, whether it is to be written anew, the journal. -/
def readLogJ (D : DiskM) (pre : Bs) (M : JouM) : DiskM × Nat × Bool × JouM := match get (logN pre) D.files with
  | none => (D, 0, true, M)
  | some f => match recAll M (scan f.data).1 with
    | none => (D, 3, false, M)
    | some M' => ((tornOff D (logN pre) (scan f.data).2 f.data.length).1, (tornOff D (logN pre) (scan f.data).2 f.data.length).2, false, M')

def joins (s : Option Snap) (M : JouM) (anew : Bool) : Option (Bool × JouM) := match s with
  | none => if 0 < M.number then none else some (anew, M)
  | some s => if M.number < s.number then some (true, M.rebase s) else if s.number < M.number then none else some (anew, { M with data := s.data })

/-- What a disk opens as: the disk behind it, an error, the journal. -/
def jouOpen (D : DiskM) (pre : Bs) (nodes : List Int) : DiskM × Nat × JouM :=
  if pre.length < 1 ∨ 20 < pre.length ∨ isGrp nodes = false then (D, 1, JouM.none0 nodes) else
  let r0 := D.rid [shadowN (logN pre), shadowN (snpN pre)]
  if r0.2 ≠ 0 then (r0.1, r0.2, JouM.none0 nodes) else
  let s := snapOf (get (snpN pre) r0.1.files)
  if s.1 ≠ 0 then (r0.1, s.1, JouM.none0 nodes) else
  let l := readLogJ r0.1 pre (JouM.none0 nodes)
  if l.2.1 ≠ 0 then (l.1, l.2.1, JouM.none0 nodes) else
  match joins s.2 l.2.2.2 l.2.2.1 with
  | none => (l.1, 3, JouM.none0 nodes)
  | some (anew, M) => if anew then ((writesJ l.1 pre M).1, (writesJ l.1 pre M).2, M) else (l.1, 0, M)

structure WroteJ where
  disk : DiskM
  jou : JouM
  err : Nat

/-- Records are laid behind the log's; M: what is behind it. -/
def laysJ (pre : Bs) (D : DiskM) (M : JouM) (rows : List Bs) (M' : JouM) : WroteJ :=
  if (layOn D (logN pre) (recsB rows)).2 ≠ 0 then ⟨(layOn D (logN pre) (recsB rows)).1, M.die, (layOn D (logN pre) (recsB rows)).2⟩ else ⟨(layOn D (logN pre) (recsB rows)).1, M', 0⟩

def jouTerm (pre : Bs) (D : DiskM) (M : JouM) (t v : Int) : WroteJ :=
  if M.dead then ⟨D, M, 9⟩ else if M.mayVote t v = false then ⟨D, M, 1⟩ else if t = M.now ∧ v = M.vote then ⟨D, M, 0⟩
  else laysJ pre D M [trmB t v] { M with now := t, vote := v }

def jouAppend (pre : Bs) (D : DiskM) (M : JouM) (l : List Ent) : WroteJ :=
  if M.dead then ⟨D, M, 9⟩ else if 1099511627776 < M.last + l.length ∨ l.all isEnt = false then ⟨D, M, 1⟩ else if l = [] then ⟨D, M, 0⟩
  else laysJ pre D M (entsB M.last l) { M with entries := M.entries ++ l }

end Go.Proofs.YtngflpaooppmhaaGreat

namespace Go.Proofs.YtngflpaooppmhaaGreat
open Go.RowKit Go.Sat Go.Maps

theorem numI_of {z : Int} (h0 : 0 ≤ z) (h1 : z ≤ 4611686018427387904) : numI z = numB z.toNat := by
  have := numI_nat (n := z.toNat) (by omega)
  rwa [Int.toNat_of_nonneg h0] at this

theorem rd_int {z : Int} (h0 : 0 ≤ z) (h1 : z ≤ 4611686018427387904) (r : Bs) (b : Bool) : Rd.num ⟨numI z ++ r, b⟩ = (z.toNat, ⟨r, b⟩) := by
  rw [numI_of h0 h1]
  exact Rd.num_of (by omega) r b

theorem ints_of : ∀ (l : List Int) (r : Bs) (b : Bool), (∀ x ∈ l, 0 ≤ x ∧ x ≤ 4611686018427387904) → Rd.ints l.length ⟨numsI l ++ r, b⟩ = (l, ⟨r, b⟩)
  | [], _, _, _ => rfl
  | z :: l, r, b, h => by
    have hz := h z (by simp)
    have e1 : numsI (z :: l) ++ r = numI z ++ (numsI l ++ r) := by simp [numsI]
    show (((Rd.num _).1 : Int) :: (Rd.ints l.length (Rd.num _).2).1, (Rd.ints l.length (Rd.num _).2).2) = _
    rw [e1, rd_int hz.1 hz.2]
    dsimp only
    rw [ints_of l r b fun x hx => h x (by simp [hx]), Int.toNat_of_nonneg hz.1]

theorem grp_of {may : List Int → Bool} {l : List Int} (hl : l.length ≤ 7) (h : ∀ x ∈ l, 0 ≤ x ∧ x < 7) (hm : may l = true) (r : Bs) (b : Bool) : Rd.grp may ⟨grpB l ++ r, b⟩ = (l, ⟨r, b⟩) := by
  unfold Rd.grp grpB
  rw [List.append_assoc, Rd.num_of (by omega)]
  dsimp only
  rw [if_neg (by omega), ints_of l r b fun x hx => by have := h x hx; omega]
  dsimp only
  rw [if_pos hm]

theorem whole_of (b : Bool) : Rd.whole ⟨[], b⟩ = !b := by
  unfold Rd.whole
  simp

theorem grp_bound {l : List Int} (h : isGrp l = true) : l.length ≤ 7 ∧ ∀ x ∈ l, 0 ≤ x ∧ x < 7 := by
  unfold isGrp at h
  simp only [Bool.and_eq_true, decide_eq_true_eq] at h
  refine ⟨h.2.2, ?_⟩
  have go : ∀ (l : List Int) (p : Int), -1 ≤ p → grpGo p l = true → ∀ x ∈ l, p < x ∧ x < 7 := by
    intro l
    induction l with
    | nil => intro p _ _ x hx; cases hx
    | cons n r ih =>
      intro p hp hg x hx
      unfold grpGo at hg
      simp only [Bool.and_eq_true, decide_eq_true_eq] at hg
      cases hx with
      | head => exact hg.1
      | tail _ hx =>
        have := ih n (by omega) hg.2 x hx
        omega
  intro x hx
  have := go l (-1) (by omega) h.1 x hx
  omega

theorem rec_fst {M : JouM} {n : Nat} {t : Int} {g : List Int} (hn : n ≤ 1099511627776) (ht : 0 ≤ t ∧ t ≤ 1099511627776) (hg : isGrp g = true) :
    rec1 true M (fstB n t g) = some { M with number := n, term := t, group := g } := by
  have hb := grp_bound hg
  unfold rec1 fstB
  dsimp only
  rw [if_neg (by decide), if_pos rfl, List.append_assoc, Rd.num_of (by omega)]
  dsimp only
  rw [rd_int ht.1 (by omega)]
  dsimp only
  have := grp_of (may := isGrp) hb.1 hb.2 hg [] false
  rw [List.append_nil] at this
  rw [this]
  dsimp only
  rw [whole_of, if_pos (show (!false) = true from rfl), if_pos (by omega), Int.toNat_of_nonneg ht.1]

theorem rec_trm {M : JouM} {t v : Int} (h : M.mayVote t v = true) (h0 : 0 ≤ M.now) : rec1 false M (trmB t v) = some { M with now := t, vote := v } := by
  have h1 := h
  unfold JouM.mayVote at h1
  simp only [Bool.and_eq_true, decide_eq_true_eq] at h1
  have h2 := h1.1
  unfold rec1 trmB
  dsimp only
  rw [if_neg (by decide), if_neg (by decide), if_pos rfl, rd_int (by omega) (by omega)]
  dsimp only
  have e := rd_int (z := v + 1) (by omega) (by omega) [] false
  rw [List.append_nil] at e
  rw [e]
  dsimp only
  rw [whole_of, Int.toNat_of_nonneg (by omega), Int.toNat_of_nonneg (by omega), show v + 1 - 1 = v by omega, h, if_pos (show (!false && true) = true from rfl)]

theorem ent_bound {e : Ent} (h : isEnt e = true) : (0 ≤ e.term ∧ e.term ≤ 1099511627776) ∧ (0 ≤ e.kind ∧ e.kind ≤ 2) ∧ e.data.length ≤ 65536 ∧ e.nodes.length ≤ 7 ∧ ∀ x ∈ e.nodes, 0 ≤ x ∧ x < 7 := by
  unfold isEnt at h
  simp only [Bool.and_eq_true] at h
  have h1 := h.1
  unfold isTm at h1
  simp only [decide_eq_true_eq] at h1
  refine ⟨h1, ?_⟩
  have h2 := h.2
  split at h2
  · rename_i hk
    simp only [decide_eq_true_eq] at h2
    rw [h2.1, h2.2, hk]
    exact ⟨by decide, by decide, by decide, fun x hx => by cases hx⟩
  · split at h2
    · rename_i hk
      simp only [decide_eq_true_eq] at h2
      rw [h2.2.2, hk]
      exact ⟨by decide, h2.2.1, by decide, fun x hx => by cases hx⟩
    · split at h2
      · rename_i hk
        simp only [Bool.and_eq_true, decide_eq_true_eq] at h2
        rw [h2.1, hk]
        exact ⟨by decide, by decide, (grp_bound h2.2).1, (grp_bound h2.2).2⟩
      · cases h2

theorem rec_ent {M : JouM} {e : Ent} (h : isEnt e = true) (hl : M.last + 1 ≤ 1099511627776) : rec1 false M (entB (M.last + 1) e) = some { M with entries := M.entries ++ [e] } := by
  obtain ⟨ht, hk, hd, hn, hx⟩ := ent_bound h
  unfold rec1 entB
  dsimp only
  rw [if_neg (by decide), if_neg (by decide), if_neg (by decide), if_pos rfl]
  simp only [List.append_assoc]
  rw [Rd.num_of (by omega)]
  dsimp only
  rw [rd_int ht.1 (by omega)]
  dsimp only
  rw [rd_int hk.1 (by omega)]
  dsimp only
  rw [Rd.bytes_of (by omega)]
  dsimp only
  have e1 := grp_of (may := anyG) hn hx rfl [] false
  rw [List.append_nil] at e1
  rw [e1]
  dsimp only
  rw [whole_of, Int.toNat_of_nonneg ht.1, Int.toNat_of_nonneg hk.1]
  rw [if_pos ⟨rfl, rfl, hl, h⟩]

theorem recGo_app : ∀ (a b : List Bs) (M : JouM), recGo M (a ++ b) = (recGo M a).bind fun M' => recGo M' b
  | [], _, _ => rfl
  | p :: a, b, M => by
    show ((rec1 false M p).bind fun M' => recGo M' (a ++ b)) = ((rec1 false M p).bind fun M' => recGo M' a).bind fun M' => recGo M' b
    cases rec1 false M p with
    | none => rfl
    | some M' => exact recGo_app a b M'

theorem recAll_app {M M' : JouM} {a b : List Bs} (h : recAll M a = some M') : recAll M (a ++ b) = recGo M' b := by
  cases a with
  | nil => cases h
  | cons p r =>
    have h1 : ((rec1 true M p).bind fun M' => recGo M' r) = some M' := h
    show ((rec1 true M p).bind fun M' => recGo M' (r ++ b)) = _
    cases hp : rec1 true M p with
    | none => rw [hp] at h1; cases h1
    | some N =>
      rw [hp] at h1
      show recGo N (r ++ b) = _
      rw [recGo_app, show recGo N r = some M' from h1]
      rfl

theorem recGo_ents : ∀ (l : List Ent) (M : JouM), (∀ e ∈ l, isEnt e = true) → M.last + l.length ≤ 1099511627776 → recGo M (entsB M.last l) = some { M with entries := M.entries ++ l }
  | [], M, _, _ => by
    show some M = _
    rw [List.append_nil]
  | e :: l, M, h, hn => by
    show ((rec1 false M (entB (M.last + 1) e)).bind fun M' => recGo M' (entsB (M.last + 1) l)) = _
    rw [rec_ent (h e (by simp)) (by simp at hn; omega)]
    have e1 : ({ M with entries := M.entries ++ [e] } : JouM).last = M.last + 1 := by
      show M.number + (M.entries ++ [e]).length = M.number + M.entries.length + 1
      rw [List.length_append]
      rfl
    have := recGo_ents l { M with entries := M.entries ++ [e] } (fun x hx => h x (by simp [hx])) (by rw [e1]; simp at hn; omega)
    rw [e1] at this
    show recGo { M with entries := M.entries ++ [e] } (entsB (M.last + 1) l) = _
    rw [this, List.append_assoc]
    rfl

/-- What is written anew says what it was. -/
theorem rec_rows {M N : JouM} (hl : M.last ≤ 1099511627776) (ht : isTm M.term = true) (hg : isGrp M.group = true) (hn : isTm M.now = true) (hv : -1 ≤ M.vote ∧ M.vote < 7) (he : ∀ e ∈ M.entries, isEnt e = true)
    (h0 : N.now = 0) (h1 : N.vote = -1) (h2 : N.entries = []) : recAll N M.rows = some { M with data := N.data, dead := N.dead } := by
  unfold isTm at ht hn
  simp only [decide_eq_true_eq] at ht hn
  have hl' : M.number + M.entries.length ≤ 1099511627776 := hl
  show ((rec1 true N (fstB M.number M.term M.group)).bind fun M' => recGo M' (trmB M.now M.vote :: entsB M.number M.entries)) = _
  rw [rec_fst (by omega) ht hg]
  show ((rec1 false { N with number := M.number, term := M.term, group := M.group } (trmB M.now M.vote)).bind fun M' => recGo M' (entsB M.number M.entries)) = _
  rw [rec_trm (by
    unfold JouM.mayVote
    simp only [h0, h1]
    simp
    omega) (by show 0 ≤ N.now; omega)]
  have e1 : ({ N with number := M.number, term := M.term, group := M.group, now := M.now, vote := M.vote } : JouM).last = M.number := by
    show M.number + N.entries.length = _
    rw [h2]
    rfl
  have := recGo_ents M.entries { N with number := M.number, term := M.term, group := M.group, now := M.now, vote := M.vote } he (by rw [e1]; exact hl')
  rw [e1] at this
  show recGo { N with number := M.number, term := M.term, group := M.group, now := M.now, vote := M.vote } (entsB M.number M.entries) = _
  rw [this]
  simp only [h2, List.nil_append]
end Go.Proofs.YtngflpaooppmhaaGreat

namespace Go.Proofs.YtngflpaooppmhaaGreat
open Go.RowKit Go.Sat Go.Maps

def intsV (l : List Int) : List Value := l.map (Value.int .i64)
/-- v is a row of the numbers l of the holder's own. -/
def OwnI (w : World) (v : Value) (l : List Int) : Prop := OwnR w 3 1 v l.length (intsV l)
theorem OwnI.has {w : World} {v : Value} {l : List Int} (h : OwnI w v l) : HasI w v l := OwnR.holds h
theorem OwnI.keep {w w' : World} {v : Value} {l : List Int} (h : OwnI w v l) (hb : ∀ k, v.ownBlock = some k → w'.heap[k]? = w.heap[k]?) : OwnI w' v l := OwnR.keep h hb
theorem ownI_far {w w' : World} {v : Value} {l : List Int} (h : OwnI w v l) (hb : Below w.heap.size w w') : OwnI w' v l := OwnR.keep h fun k hk => hb.block k (OwnR.lt h hk)
theorem own_capI {w : World} {v : Value} {l : List Int} (h : OwnI w v l) : ∃ p c, v = .slice p l.length c ∧ l.length ≤ c := by
  rcases h.2 with ⟨rfl, hn⟩ | ⟨g, cap, cur, rfl, _, hnc, _⟩
  · exact ⟨none, 0, by rw [hn], by omega⟩
  · exact ⟨_, cap, rfl, hnc⟩

/-! ### Entries in memory -/
abbrev EV := Value × Value
def entC (e : Ent) (v : EV) : List Value := [.int .i64 e.term, .int .i64 e.kind, v.1, v.2]
def entsC : List Ent → List EV → List Value
  | e :: es, v :: vs => entC e v ++ entsC es vs
  | _, _ => []

theorem entsC_len : ∀ (es : List Ent) (vs : List EV), vs.length = es.length → (entsC es vs).length = es.length * 4
  | [], [], _ => rfl
  | e :: es, v :: vs, h => by
    show (entC e v ++ entsC es vs).length = _
    rw [List.length_append, entsC_len es vs (by simpa using h), List.length_cons]
    show 4 + _ = _
    omega
  | [], _ :: _, h => by simp at h
  | _ :: _, [], h => by simp at h

theorem entsC_app : ∀ (es : List Ent) (vs : List EV) (fs : List Ent) (us : List EV), vs.length = es.length → entsC (es ++ fs) (vs ++ us) = entsC es vs ++ entsC fs us
  | [], [], _, _, _ => rfl
  | e :: es, v :: vs, fs, us, h => by
    show entC e v ++ entsC (es ++ fs) (vs ++ us) = entC e v ++ entsC es vs ++ entsC fs us
    rw [entsC_app es vs fs us (by simpa using h), List.append_assoc]
  | [], _ :: _, _, _, h => by simp at h
  | _ :: _, [], _, _, h => by simp at h

theorem entsC_take : ∀ (k : Nat) (es : List Ent) (vs : List EV), vs.length = es.length → entsC (es.take k) (vs.take k) = (entsC es vs).take (k * 4)
  | 0, _, _, _ => by simp [entsC]
  | k + 1, [], [], _ => by simp [entsC]
  | k + 1, e :: es, v :: vs, h => by
    show entC e v ++ entsC (es.take k) (vs.take k) = (entC e v ++ entsC es vs).take ((k + 1) * 4)
    have h4 : (entC e v).length = 4 := rfl
    rw [entsC_take k es vs (by simpa using h), List.take_append, List.take_of_length_le (l := entC e v) (by omega), h4, show (k + 1) * 4 - 4 = k * 4 by omega]
  | k + 1, [], _ :: _, h => by simp at h
  | k + 1, _ :: _, [], h => by simp at h

theorem entsC_drop : ∀ (k : Nat) (es : List Ent) (vs : List EV), vs.length = es.length → entsC (es.drop k) (vs.drop k) = (entsC es vs).drop (k * 4)
  | 0, _, _, _ => by simp
  | k + 1, [], [], _ => by simp [entsC]
  | k + 1, e :: es, v :: vs, h => by
    show entsC (es.drop k) (vs.drop k) = (entC e v ++ entsC es vs).drop ((k + 1) * 4)
    have h4 : (entC e v).length = 4 := rfl
    rw [entsC_drop k es vs (by simpa using h), List.drop_append, List.drop_of_length_le (l := entC e v) (by omega), List.nil_append, h4, show (k + 1) * 4 - 4 = k * 4 by omega]
  | k + 1, [], _ :: _, h => by simp at h
  | k + 1, _ :: _, [], h => by simp at h

theorem entsC_at : ∀ (es : List Ent) (vs : List EV) (i : Nat) (e : Ent) (v : EV), es[i]? = some e → vs[i]? = some v → ∀ (j : Nat) u, (entC e v)[j]? = some u → (entsC es vs)[i * 4 + j]? = some u
  | [], _, i, e, v, h, _ => by simp at h
  | _ :: _, [], i, e, v, _, h => by simp at h
  | x :: es, y :: vs, 0, e, v, h1, h2 => by
    simp only [List.getElem?_cons_zero, Option.some.injEq] at h1 h2
    subst h1
    subst h2
    intro j u hu
    have hj : j < 4 := by
      have := (List.getElem?_eq_some_iff.1 hu).1
      exact this
    show (entC x y ++ entsC es vs)[0 * 4 + j]? = _
    rw [List.getElem?_append_left (by show _ < 4; omega), show 0 * 4 + j = j by omega]
    exact hu
  | x :: es, y :: vs, i + 1, e, v, h1, h2 => by
    intro j u hu
    have := entsC_at es vs i e v (by simpa using h1) (by simpa using h2) j u hu
    show (entC x y ++ entsC es vs)[(i + 1) * 4 + j]? = _
    rw [List.getElem?_append_right (by show 4 ≤ _; omega)]
    show (entsC es vs)[(i + 1) * 4 + j - 4]? = _
    rw [show (i + 1) * 4 + j - 4 = i * 4 + j by omega]
    exact this

structure EntAt (w : World) (e : Ent) (v : EV) : Prop where
  data : OwnB w 5 v.1 e.data
  nodes : OwnI w v.2 e.nodes
theorem EntAt.keep {w w' : World} {e : Ent} {v : EV} (h : EntAt w e v) (hb : ∀ k, (v.1.ownBlock = some k ∨ v.2.ownBlock = some k) → w'.heap[k]? = w.heap[k]?) : EntAt w' e v :=
  ⟨OwnR.keep h.data fun k hk => hb k (.inl hk), OwnR.keep h.nodes fun k hk => hb k (.inr hk)⟩
theorem EntAt.lt {w : World} {e : Ent} {v : EV} (h : EntAt w e v) {k : Nat} (hk : v.1.ownBlock = some k ∨ v.2.ownBlock = some k) : k < w.heap.size := hk.elim (OwnR.lt h.data) (OwnR.lt h.nodes)

def EntsAt (w : World) (es : List Ent) (vs : List EV) : Prop := vs.length = es.length ∧ ∀ (i : Nat) e v, es[i]? = some e → vs[i]? = some v → EntAt w e v

/-- What a journal is. -/
structure JouM.OK (M : JouM) : Prop where
  last : M.last ≤ 1099511627776
  term : isTm M.term = true
  group : isGrp M.group = true
  now : isTm M.now = true
  vote : -1 ≤ M.vote ∧ M.vote < 7
  data : M.data.length ≤ 1073741824
  ents : ∀ e ∈ M.entries, isEnt e = true

theorem isTm_iff {n : Int} : isTm n = true ↔ 0 ≤ n ∧ n ≤ 1099511627776 := by simp [isTm]
theorem grp_len {l : List Int} (h : isGrp l = true) : 1 ≤ l.length ∧ l.length ≤ 7 := by
  unfold isGrp at h
  simp only [Bool.and_eq_true, decide_eq_true_eq] at h
  exact h.2

/-! ### A journal in memory -/
structure JouIn (w : World) (j d : Nat) (pre : ByteArray) (own : Nat → Prop) (M : JouM) (gv dv ev : Value) (vs : List EV) : Prop where
  cells : w.heap[j]? = some (.cells #[.int .i64 (M.number : Int), .int .i64 M.term, gv, .pointer (some ⟨d, 0, none⟩), .string pre, .int .i64 M.now, .int .i64 M.vote, dv, ev, .bool M.dead] 107 (0, 0))
  group : OwnI w gv M.group
  data : OwnB w 5 dv M.data
  row : OwnR w 47 4 ev M.entries.length (entsC M.entries vs)
  rows : EntsAt w M.entries vs
  ol : own j
  og : ∀ k, gv.ownBlock = some k → own k ∧ k ≠ j ∧ ev.ownBlock ≠ some k
  od : ∀ k, dv.ownBlock = some k → own k ∧ k ≠ j ∧ ev.ownBlock ≠ some k
  oe : ∀ k, ev.ownBlock = some k → own k ∧ k ≠ j
  ov : ∀ u ∈ vs, ∀ k, (u.1.ownBlock = some k ∨ u.2.ownBlock = some k) → own k ∧ k ≠ j ∧ ev.ownBlock ≠ some k
  olt : ∀ k, own k → k < w.heap.size
  psz : 1 ≤ pre.size ∧ pre.size ≤ 20
  ok : M.OK

section
variable {w w' : World} {j d : Nat} {pre : ByteArray} {own : Nat → Prop} {M : JouM} {gv dv ev : Value} {vs : List EV}

theorem JouIn.keep (h : JouIn w j d pre own M gv dv ev vs) (hs : ∀ k, own k → w'.heap[k]? = w.heap[k]?) (hl : ∀ k, own k → k < w'.heap.size) : JouIn w' j d pre own M gv dv ev vs where
  cells := (hs j h.ol).trans h.cells
  group := OwnR.keep h.group fun k hk => hs k (h.og k hk).1
  data := OwnR.keep h.data fun k hk => hs k (h.od k hk).1
  row := h.row.keep fun k hk => hs k (h.oe k hk).1
  rows := ⟨h.rows.1, fun i e v he hv => (h.rows.2 i e v he hv).keep fun k hk => hs k (h.ov v (List.mem_of_getElem? hv) k hk).1⟩
  ol := h.ol
  og := h.og
  od := h.od
  oe := h.oe
  ov := h.ov
  olt := hl
  psz := h.psz
  ok := h.ok

theorem JouIn.below (h : JouIn w j d pre own M gv dv ev vs) (hb : Below w.heap.size w w') : JouIn w' j d pre own M gv dv ev vs :=
  h.keep (fun k hk => hb.block k (h.olt k hk)) fun k hk => Nat.lt_of_lt_of_le (h.olt k hk) hb.size

theorem JouIn.c (h : JouIn w j d pre own M gv dv ev vs) (i : Nat) {v : Value} (hi : (#[.int .i64 (M.number : Int), .int .i64 M.term, gv, .pointer (some ⟨d, 0, none⟩), .string pre, .int .i64 M.now, .int .i64 M.vote, dv, ev, .bool M.dead] : Array Value)[i]? = some v) : w.cell? ⟨j, i, none⟩ = some v := cell_of h.cells hi
theorem JouIn.fr (h : JouIn w j d pre own M gv dv ev vs) (i : Nat) : w.frozen? ⟨j, i, none⟩ = false := frozen_of h.cells i
/-- An entry's cells. -/
theorem JouIn.ent (h : JouIn w j d pre own M gv dv ev vs) {i : Nat} {e : Ent} (he : M.entries[i]? = some e) : ∃ g c v, ev = .slice (some ⟨g, 0, none⟩) M.entries.length c ∧ vs[i]? = some v ∧ EntAt w e v ∧
    w.cell? ⟨g, i * 4, none⟩ = some (.int .i64 e.term) ∧ w.cell? ⟨g, i * 4 + 1, none⟩ = some (.int .i64 e.kind) ∧ w.cell? ⟨g, i * 4 + 2, none⟩ = some v.1 ∧ w.cell? ⟨g, i * 4 + 3, none⟩ = some v.2 := by
  have hi := (List.getElem?_eq_some_iff.1 he).1
  have hv : vs[i]? = some (vs[i]'(by rw [h.rows.1]; exact hi)) := List.getElem?_eq_getElem _
  generalize vs[i]'(by rw [h.rows.1]; exact hi) = v at hv
  rcases h.row.2 with ⟨-, h0⟩ | ⟨g, cap, cur, rfl, -⟩
  · omega
  · have hc : ∀ (k : Nat) u, (entC e v)[k]? = some u → w.cell? ⟨g, i * 4 + k, none⟩ = some u := fun k u hu => by
      have := h.row.cells (g := g) rfl (i * 4 + k) u (entsC_at _ _ i e v he hv k u hu)
      rwa [add_zero] at this
    exact ⟨g, cap, v, rfl, hv, h.rows.2 i e v he hv, hc 0 _ rfl, hc 1 _ rfl, hc 2 _ rfl, hc 3 _ rfl⟩
end

def JouF (w w1 : World) (j d : Nat) (pre : ByteArray) (D : DiskM) (M : JouM) (F : Nat → Prop) : Prop :=
  ∃ own gv dv ev vs, JouIn w1 j d pre own M gv dv ev vs ∧ St w w1 d D (fun k => own k ∨ F k) ∧ (∀ k, own k → w.heap.size ≤ k ∧ ¬ F k) ∧ ∀ k, F k → k < w1.heap.size

def JouCells (j d : Nat) (pre : ByteArray) (w : World) : Prop := w.cell? ⟨j, 3, none⟩ = some (.pointer (some ⟨d, 0, none⟩)) ∧ w.cell? ⟨j, 4, none⟩ = some (.string pre) ∧ pre.size ≤ 20
theorem JouIn.jc {w : World} {j d : Nat} {pre : ByteArray} {own : Nat → Prop} {M : JouM} {gv dv ev : Value} {vs : List EV} (h : JouIn w j d pre own M gv dv ev vs) : JouCells j d pre w := ⟨h.c 3 rfl, h.c 4 rfl, h.psz.2⟩
theorem JouCells.same {l d : Nat} {pre : ByteArray} {w w' : World} (h : JouCells l d pre w) (hb : w'.heap[l]? = w.heap[l]?) : JouCells l d pre w' :=
  ⟨(World.cell?_of_block (a := ⟨l, 3, none⟩) hb).trans h.1, (World.cell?_of_block (a := ⟨l, 4, none⟩) hb).trans h.2.1, h.2.2⟩

section
variable {w w1 w2 : World} {j d : Nat} {pre : ByteArray} {D : DiskM} {M : JouM} {F F' : Nat → Prop}

theorem JouF.bel (h : JouF w w1 j d pre D M F) : Below w.heap.size w w1 := let ⟨_, _, _, _, _, _, hS, _, _⟩ := h; hS.below
theorem JouF.okD (h : JouF w w1 j d pre D M F) : D.OK := let ⟨_, _, _, _, _, _, hS, _, _⟩ := h; hS.ok
theorem JouF.flt (h : JouF w w1 j d pre D M F) {k : Nat} (hk : F k) : k < w1.heap.size := let ⟨_, _, _, _, _, _, _, _, hF⟩ := h; hF k hk
theorem JouF.jc (h : JouF w w1 j d pre D M F) : JouCells j d pre w1 := let ⟨_, _, _, _, _, hJ, _, _, _⟩ := h; hJ.jc
theorem JouF.stF (h : JouF w w1 j d pre D M F) : St w w1 d D F := let ⟨_, _, _, _, _, _, hS, _, _⟩ := h; hS.less fun _ hk => .inr hk
theorem JouF.st (h : JouF w w1 j d pre D M F) : St w w1 d D NoF := let ⟨_, _, _, _, _, _, hS, _, _⟩ := h; hS.noF
theorem JouF.jlt (h : JouF w w1 j d pre D M F) : j < w1.heap.size := let ⟨_, _, _, _, _, hJ, _, _, _⟩ := h; hJ.olt j hJ.ol
theorem JouF.jnF (h : JouF w w1 j d pre D M F) : ¬ F j := let ⟨_, _, _, _, _, hJ, _, hn, _⟩ := h; (hn j hJ.ol).2
theorem JouF.okM (h : JouF w w1 j d pre D M F) : M.OK := let ⟨_, _, _, _, _, hJ, _, _, _⟩ := h; hJ.ok
theorem JouF.psz (h : JouF w w1 j d pre D M F) : 1 ≤ pre.size ∧ pre.size ≤ 20 := let ⟨_, _, _, _, _, hJ, _, _, _⟩ := h; hJ.psz

/-- Something else has turned: blocks of F that are new since w; what is new may be in F' too. -/
theorem JouF.move {S : Nat → Prop} (h : JouF w w1 j d pre D M F) (hc : Chg S w1 w2) (hS : ∀ k, k < w1.heap.size → S k → F k ∧ w.heap.size ≤ k) (hF : ∀ k, F' k → (F k ∨ w1.heap.size ≤ k) ∧ k < w2.heap.size) : JouF w w2 j d pre D M F' := by
  obtain ⟨own, gv, dv, ev, vs, hL, hSt, hn, hl⟩ := h
  refine ⟨own, gv, dv, ev, vs, hL.keep (fun k hk => hc.block k (hL.olt k hk) fun hs => (hn k hk).2 (hS k (hL.olt k hk) hs).1) fun k hk => Nat.lt_of_lt_of_le (hL.olt k hk) hc.size, hSt.move hc (fun k hk hs => ⟨.inr (hS k hk hs).1, (hS k hk hs).2⟩) (fun k hk => ?_), fun k hk => ⟨(hn k hk).1, fun hf => ?_⟩, fun k hk => (hF k hk).2⟩
  · rcases hk with hk | hk
    · exact ⟨.inl (.inl hk), Nat.lt_of_lt_of_le (hL.olt k hk) hc.size⟩
    · exact ⟨(hF k hk).1.imp .inr id, (hF k hk).2⟩
  · rcases (hF k hf).1 with h | h
    · exact (hn k hk).2 h
    · have := hL.olt k hk
      omega

theorem JouF.next (h : JouF w w1 j d pre D M F) (hb : Below w1.heap.size w1 w2) : JouF w w2 j d pre D M F :=
  h.move (Chg.of_below hb) (fun _ _ h => h.elim) fun _ hk => ⟨.inl hk, Nat.lt_of_lt_of_le (h.flt hk) hb.size⟩
theorem JouF.drewN (h : JouF w w1 j d pre D M F) (q : Nat) : JouF w (w1.drewN q) j d pre D M F := h.next ⟨rfl, rfl, rfl, Nat.le_refl _, fun _ _ => rfl⟩
theorem JouF.same (h : JouF w w1 j d pre D M F) (hb : Below w1.heap.size w1 w2) : Same F w1 w2 := fun _ hk => hb.block _ (h.flt hk)
theorem JouF.less (h : JouF w w1 j d pre D M F) (hF : ∀ k, F' k → F k) : JouF w w1 j d pre D M F' :=
  h.move (Chg.refl _ _ : Chg (fun _ => False) w1 w1) (fun _ _ h => h.elim) fun _ hk => ⟨.inl (hF _ hk), h.flt (hF _ hk)⟩
theorem JouF.more (h : JouF w w1 j d pre D M F) (hb : Below w1.heap.size w1 w2) (hF : ∀ k, F' k → F k ∨ w1.heap.size ≤ k ∧ k < w2.heap.size) : JouF w w2 j d pre D M F' :=
  h.move (Chg.of_below hb) (fun _ _ h => h.elim) fun k hk => by
    rcases hF k hk with h1 | h1
    · exact ⟨.inl h1, Nat.lt_of_lt_of_le (h.flt h1) hb.size⟩
    · exact ⟨.inr h1.1, h1.2⟩
theorem JouF.box (h : JouF w w1 j d pre D M F) (o : Obj) : JouF w (w1.alloc o) j d pre D M (fun k => F k ∨ k = w1.heap.size) :=
  h.more (below_one w1 o) fun k hk => hk.imp id fun e => ⟨by omega, by simp; omega⟩

/-- A thing done with the disk. -/
theorem jou_disk {P : Program} {f : FuncId} {args : Array Value} {Re : DiskM × Nat} {wc : World} (h : JouF w w1 j d pre D M F) (hb : Below w1.heap.size w1 wc) (hx : ∀ G, St w w1 d D G → Calls P f args wc (Told w d G wc Re)) :
    Calls P f args wc fun e w' => e = .returned (.int .i64 (Re.2 : Int)) ∧ JouF w w' j d pre Re.1 M F ∧ Same F w1 w' ∧ w'.heap[j]? = w1.heap[j]? := by
  obtain ⟨own, gv, dv, ev, vs, hL, hS, hn, hl⟩ := h
  refine (hx _ hS).mono ?_
  rintro e w' ⟨rfl, hS', hs⟩
  refine ⟨rfl, ⟨own, gv, dv, ev, vs, ?_, hS', hn, fun k hk => hS'.flt (.inr hk)⟩, fun k hk => (hs k (.inr hk)).trans (hb.block k (hl k hk)), (hs j (.inl hL.ol)).trans (hb.block j (hL.olt j hL.ol))⟩
  exact (hL.below hb).keep (fun k hk => hs k (.inl hk)) fun k hk => hS'.flt (.inl hk)
/-- The journal itself has turned. -/
theorem JouF.turned {own own' : Nat → Prop} {M' : JouM} {gv' dv' ev' : Value} {vs' : List EV} (hS : St w w1 d D (fun k => own k ∨ F k)) (hn : ∀ k, own k → w.heap.size ≤ k ∧ ¬ F k) (hl : ∀ k, F k → k < w1.heap.size)
    (hL' : JouIn w2 j d pre own' M' gv' dv' ev' vs') (hc : Chg own w1 w2) (hx : ∀ k, own' k → own k ∨ w1.heap.size ≤ k) : JouF w w2 j d pre D M' F ∧ Same F w1 w2 := by
  refine ⟨⟨own', gv', dv', ev', vs', hL', hS.move hc (fun k _ hk => ⟨.inl hk, (hn k hk).1⟩) (fun k hk => ?_), fun k hk => ?_, fun k hk => Nat.lt_of_lt_of_le (hl k hk) hc.size⟩, fun k hk => hc.block k (hl k hk) fun ho => (hn k ho).2 hk⟩
  · rcases hk with hk | hk
    · exact ⟨(hx k hk).imp .inl id, hL'.olt k hk⟩
    · exact ⟨.inl (.inr hk), Nat.lt_of_lt_of_le (hl k hk) hc.size⟩
  · rcases hx k hk with h | h
    · exact hn k h
    · exact ⟨Nat.le_trans hS.below.size h, fun hf => by have := hl k hf; omega⟩
end

/-- Cells of the journal that are plain have turned. -/
theorem JouIn.set {w w' : World} {j d : Nat} {pre : ByteArray} {own : Nat → Prop} {M M' : JouM} {gv dv ev : Value} {vs : List EV} (h : JouIn w j d pre own M gv dv ev vs)
    (hc : w'.heap[j]? = some (.cells #[.int .i64 (M'.number : Int), .int .i64 M'.term, gv, .pointer (some ⟨d, 0, none⟩), .string pre, .int .i64 M'.now, .int .i64 M'.vote, dv, ev, .bool M'.dead] 107 (0, 0)))
    (hs : ∀ k, k ≠ j → w'.heap[k]? = w.heap[k]?) (hz : w'.heap.size = w.heap.size) (hg : M'.group = M.group) (hd : M'.data = M.data) (he : M'.entries = M.entries) (ok : M'.OK) : JouIn w' j d pre own M' gv dv ev vs where
  cells := hc
  group := by rw [hg]; exact OwnR.keep h.group fun k hk => hs k (h.og k hk).2.1
  data := by rw [hd]; exact OwnR.keep h.data fun k hk => hs k (h.od k hk).2.1
  row := by rw [he]; exact h.row.keep fun k hk => hs k (h.oe k hk).2
  rows := by rw [he]; exact ⟨h.rows.1, fun i e v he hv => (h.rows.2 i e v he hv).keep fun k hk => hs k (h.ov v (List.mem_of_getElem? hv) k hk).2.1⟩
  ol := h.ol
  og := h.og
  od := h.od
  oe := h.oe
  ov := h.ov
  olt := fun k hk => by rw [hz]; exact h.olt k hk
  psz := h.psz
  ok := ok
end Go.Proofs.YtngflpaooppmhaaGreat

namespace Go.Proofs.YtngflpaooppmhaaGreat
open Go.RowKit Go.Sat Go.Maps

/-- slices.Clone of numbers. -/
theorem icl_calls {w : World} {x : Value} {l : List Int} (h : HasI w x l) (hl : l.length ≤ 1099511627776) :
    Calls Tryz.prog 53 #[x] w fun e w' => ∃ v, e = .returned v ∧ OwnI w' v l ∧ (∀ k, v.ownBlock = some k → w.heap.size ≤ k) ∧ Below w.heap.size w w' := by
  obtain ⟨hlen, p, c, rfl, h0, hc⟩ := h
  cases p with
  | none =>
    have h1 : l = [] := List.eq_nil_of_length_eq_zero (h0 rfl)
    subst h1
    refine (Tryz.slices_Clone_int_nil _ c w).mono ?_
    rintro e w' ⟨rfl, rfl⟩
    exact ⟨_, rfl, OwnR.nil _ _ _, fun k hk => (by cases hk), Below.refl _ _⟩
  | some a =>
    by_cases hn : l = []
    · subst hn
      refine (Tryz.slices_Clone_int_zero a c w).mono ?_
      rintro e w' ⟨v, rfl, hv, -, hb⟩
      exact ⟨v, rfl, OwnR.of_kit hv, fun k hk => OwnR.block_ge hv hk, hb⟩
    · obtain ⟨b, o, sp⟩ := a
      have hpos : 0 < l.length := by
        cases l with
        | nil => exact absurd rfl hn
        | cons x r => simp
      have h1 := hc _ rfl 0 (.int .i64 l[0]) (by rw [List.getElem?_map, List.getElem?_eq_getElem hpos]; rfl)
      have hsp : sp = none := by
        have := World.cell?_spot h1
        simpa [Addr.add] using this
      subst hsp
      refine (Tryz.slices_Clone_int b o l.length c l w (Nat.le_refl _) (by omega) fun j hj => ?_).mono ?_
      · have := hc _ rfl j (.int .i64 l[j]) (by rw [List.getElem?_map, List.getElem?_eq_getElem hj]; rfl)
        have e : (⟨b, o, none⟩ : Addr).add j = ⟨b, o + j, none⟩ := by unfold Addr.add; split <;> simp_all
        rw [e] at this
        rw [this]
        simp [List.getD, List.getElem?_eq_getElem hj]
      · rintro e w' ⟨v, rfl, hv, -, hb⟩
        rw [List.take_length] at hv
        exact ⟨v, rfl, OwnR.of_kit hv, fun k hk => OwnR.block_ge hv hk, hb⟩

theorem istm_calls (w : World) (n : Int) : Calls Tryz.prog 100 #[.int .i64 n] w fun e w' => e = .returned (.bool (isTm n)) ∧ w' = w := by
  by_cases h0 : 0 ≤ n
  · by_cases h1 : n ≤ 1099511627776
    · have HE := Lib.hid (show isTm n = true from isTm_iff.2 ⟨h0, h1⟩)
      go_enter Tryz.func100, Tryz.ntmps100
      go_wp2_with fail
      go_ret
      exact ⟨by rw [HE.out]; rfl, rfl⟩
    · have HE := Lib.hid (show isTm n = false from by rw [Bool.eq_false_iff]; intro e; exact h1 (isTm_iff.1 e).2)
      have hd : decide (n ≤ 1099511627776) = false := by simpa using h1
      go_enter Tryz.func100, Tryz.ntmps100
      go_wp2_with fail
      go_ret
      exact ⟨by rw [HE.out]; rfl, rfl⟩
  · have HE := Lib.hid (show isTm n = false from by rw [Bool.eq_false_iff]; intro e; exact h0 (isTm_iff.1 e).1)
    have hd : decide (0 ≤ n) = false := by simpa using h0
    go_enter Tryz.func100, Tryz.ntmps100
    go_wp2_with fail
    go_ret
    exact ⟨by rw [HE.out]; rfl, rfl⟩

/-- The number ahead. -/
def prevI (l : List Int) (k : Nat) : Int := if k = 0 then -1 else (l[k - 1]?).getD 0
theorem prev_succ {l : List Int} {k : Nat} (hk : k < l.length) : prevI l (k + 1) = l[k] := by
  unfold prevI
  rw [if_neg (by omega), Nat.add_sub_cancel, List.getElem?_eq_getElem hk]
  rfl

set_option maxRecDepth 100000 in
set_option maxHeartbeats 4000000 in
theorem isgrp_calls {w : World} {p : Option Addr} {n c : Nat} {l : List Int} (h : HasI w (.slice p n c) l) (hl : l.length ≤ 1099511627776) :
    Calls Tryz.prog 52 #[.slice p n c] w fun e w' => e = .returned (.bool (isGrp l)) ∧ w' = w := by
  have hn : l.length = n := by obtain ⟨_, _, e⟩ := h.slice; simp only [Value.slice.injEq] at e; exact e.2.1.symm
  rw [hn] at hl
  have H := Lib.hid h
  have Hn := Lib.hid hn
  clear h hn
  go_enter Tryz.func52, Tryz.ntmps52
  go_wp2_with fail
  go_loop [7] (fun i => ∃ k : Nat, k ≤ n ∧ i = .int .i64 k ∧ grpGo (-1) l = grpGo (prevI l k) (l.drop k) ∧ -1 ≤ prevI l k) (fun i => n - (intOf i).toNat)
  case atStart => exact ⟨0, Nat.zero_le _, rfl, rfl, Int.le_refl _⟩
  case round =>
    obtain ⟨k, hk, rfl, hgo, hpv⟩ := hrel
    by_cases hlt : k < n
    · have hkl : k < l.length := by rw [Hn.out]; exact hlt
      have HB := Lib.hid (show ¬ (prevI l k < l[k] ∧ l[k] < 7) → isGrp l = false from fun hb => by
        unfold isGrp
        rw [hgo, List.drop_eq_getElem_cons hkl]
        unfold grpGo
        rw [decide_eq_false hb]
        rfl)
      have HG := Lib.hid (show prevI l k < l[k] ∧ l[k] < 7 → grpGo (-1) l = grpGo (prevI l (k + 1)) (l.drop (k + 1)) from fun hb => by
        rw [hgo, List.drop_eq_getElem_cons hkl, prev_succ hkl]
        show (decide _ && _) = _
        rw [decide_eq_true hb, Bool.true_and])
      have HP := Lib.hid (prev_succ hkl)
      rcases H.out.at with h0 | ⟨b, o, c1, e1, hc⟩
      · rw [h0] at hkl
        simp at hkl
      rw [Hn.out] at e1
      simp only [Value.slice.injEq] at e1
      obtain ⟨rfl, -, rfl⟩ := e1
      have hck := hc k _ (List.getElem?_eq_getElem hkl)
      have Hcp := Lib.hid (show k ≠ 0 → w.cell? ⟨b, o + (k - 1), none⟩ = some (.int .i64 (prevI l k)) from fun h0 => by
        have hk1 : k - 1 < l.length := by omega
        have := hc (k - 1) _ (List.getElem?_eq_getElem hk1)
        rw [this]
        unfold prevI
        rw [if_neg h0, List.getElem?_eq_getElem hk1]
        rfl)
      have Hp0 := Lib.hid (show k = 0 → prevI l k = -1 from fun h0 => by rw [h0]; rfl)
      clear hc hgo
      generalize l[k] = x at *
      generalize prevI l k = q at *
      by_cases hx0 : x < 0
      · have HE := Lib.hid (HB.out (by omega))
        go_wp2_with fail
        go_ret
        exact ⟨by rw [HE.out]; rfl, rfl⟩
      · have hd0 : decide (x < 0) = false := by simpa using hx0
        by_cases hx7 : 7 ≤ x
        · have HE := Lib.hid (HB.out (by omega))
          go_wp2_with fail
          go_ret
          exact ⟨by rw [HE.out]; rfl, rfl⟩
        · have hd7 : decide (7 ≤ x) = false := by simpa using hx7
          by_cases hk0 : k = 0
          · have HE := Lib.hid (HG.out (by rw [Hp0.out hk0]; omega))
            have hdk : decide ((0 : Int) < (k : Int)) = false := by simp; omega
            have hdk2 : decide (0 < k) = false := by simp; omega
            clear hk0
            go_wp2_with fail
            go_round
            case rel => exact ⟨k + 1, by omega, by go_num, HE.out, by rw [HP.out]; omega⟩
            case measure => simp [intOf]; omega
          · have hcp := Hcp.out hk0
            have hk1 : (0 : Int) < (k : Int) := by omega
            have hk1n : 0 < k := by omega
            have hw1 : IntKind.i64.wrap ((k : Int) - 1) = ((k - 1 : Nat) : Int) := by rw [IntWalk.i64_in _ (by omega)]; omega
            have hkn : k - 1 < n := by omega
            by_cases hxq : x ≤ q
            · have HE := Lib.hid (HB.out (by omega))
              go_wp2_with fail
              go_ret
              exact ⟨by rw [HE.out]; rfl, rfl⟩
            · have HE := Lib.hid (HG.out (by omega))
              have hdq : decide (x ≤ q) = false := by simpa using hxq
              go_wp2_with fail
              go_round
              case rel => exact ⟨k + 1, by omega, by go_num, HE.out, by rw [HP.out]; omega⟩
              case measure => simp [intOf]; omega
    · have hdr : l.drop k = [] := List.drop_of_length_le (by rw [Hn.out]; omega)
      have HE := Lib.hid (show isGrp l = decide (1 ≤ n ∧ n ≤ 7) from by
        unfold isGrp
        rw [hgo, hdr, Hn.out]
        rfl)
      clear hgo hdr
      by_cases h1 : 1 ≤ n
      · by_cases h7 : n ≤ 7
        · have hd1 : decide ((1 : Int) ≤ (n : Int)) = true := by simp; omega
          have hd7 : decide ((n : Int) ≤ 7) = true := by simp; omega
          go_wp2_with fail
          go_ret
          exact ⟨by rw [HE.out, decide_eq_true (And.intro h1 h7)]; rfl, rfl⟩
        · have hd1 : decide ((1 : Int) ≤ (n : Int)) = true := by simp; omega
          have hd : decide ((n : Int) ≤ 7) = false := by simp; omega
          go_wp2_with fail
          go_ret
          exact ⟨by rw [HE.out, decide_eq_false (fun e => h7 e.2)]; rfl, rfl⟩
      · have hd : decide ((1 : Int) ≤ (n : Int)) = false := by simp; omega
        go_wp2_with fail
        go_ret
        exact ⟨by rw [HE.out, decide_eq_false (fun e => h1 e.1)]; rfl, rfl⟩
end Go.Proofs.YtngflpaooppmhaaGreat

namespace Go.Proofs.YtngflpaooppmhaaGreat
open Go.RowKit Go.Sat Go.Maps

/-- A list of rows that is laid up, each row in memory of its own. -/
structure RowsIn (w : World) (v : Value) (vs : List Value) (ls : List Bs) : Prop where
  row : OwnR w 23 1 v ls.length vs
  has : ∀ (i : Nat) u b, vs[i]? = some u → ls[i]? = some b → OwnB w 5 u b
  sep : ∀ u ∈ vs, ∀ k, u.ownBlock = some k → v.ownBlock ≠ some k

theorem below_one0 (w : World) (o : Obj) : Below w.heap.size w (w.alloc o) := (Below.refl _ _).alloc (Nat.le_refl _) o

theorem slit_one (w : World) (u : Value) (e : TypeId) (fr : Nat × Nat) : Holds (w.alloc (.cells #[u] e fr)) 1 (.slice (some ⟨w.heap.size, 0, none⟩) 1 1) 1 [u] := by
  refine ⟨rfl, some ⟨w.heap.size, 0, none⟩, 1, rfl, fun e => (by cases e), fun a ha i x hx => ?_⟩
  cases ha
  rw [add_zero]
  refine cell_of (new_block w _) ?_
  simpa using hx

section
variable {w w0 w1 : World} {v v' u : Value} {vs : List Value} {ls : List Bs} {b : Bs}

theorem RowsIn.len (h : RowsIn w v vs ls) : vs.length = ls.length := by have := h.row.1; omega

theorem RowsIn.below (h : RowsIn w v vs ls) (hb : Below w.heap.size w w1) : RowsIn w1 v vs ls :=
  ⟨h.row.keep fun k hk => hb.block k (OwnR.lt h.row hk), fun i u b hu hl => OwnR.keep (h.has i u b hu hl) fun k hk => hb.block k (OwnR.lt (h.has i u b hu hl) hk), h.sep⟩

theorem RowsIn.nil (w : World) : RowsIn w (.slice none 0 0) [] [] := ⟨OwnR.nil _ _ _, fun i u b hu => (by simp at hu), fun u hu => (by simp at hu)⟩

theorem mem_rows (h : RowsIn w v vs ls) {u : Value} (hu : u ∈ vs) : ∃ b, OwnB w 5 u b := by
  obtain ⟨i, hi, rfl⟩ := List.getElem_of_mem hu
  have hl : i < ls.length := by rw [← h.len]; exact hi
  exact ⟨ls[i], h.has i _ _ (List.getElem?_eq_getElem hi) (List.getElem?_eq_getElem hl)⟩

/-- A row was appended. -/
theorem RowsIn.push (h : RowsIn w0 v vs ls) (hu : OwnB w0 5 u b) (hne : ∀ k, u.ownBlock = some k → v.ownBlock ≠ some k) (hown : OwnR w1 23 1 v' (ls.length + 1) (vs ++ [u])) (hg : w0.grownBy w1 v.ownBlock) (hloc : v'.ownBlock = v.ownBlock ∨ ∃ g, v'.ownBlock = some g ∧ w0.heap.size ≤ g) :
    RowsIn w1 v' (vs ++ [u]) (ls ++ [b]) := by
  have hlen := h.len
  have hk : ∀ x c, OwnB w0 5 x c → (∀ k, x.ownBlock = some k → v.ownBlock ≠ some k) → OwnB w1 5 x c := fun x c hx hs => OwnR.keep hx fun k hk => hg.block k (OwnR.lt hx hk) fun e => hs k hk e.symm
  have hs' : ∀ x c, OwnB w0 5 x c → (∀ k, x.ownBlock = some k → v.ownBlock ≠ some k) → ∀ k, x.ownBlock = some k → v'.ownBlock ≠ some k := fun x c hx hs k hk e => by
    rcases hloc with e1 | ⟨g, e1, hge⟩
    · exact hs k hk (e1 ▸ e)
    · rw [e] at e1
      cases e1
      have := OwnR.lt hx hk
      omega
  refine ⟨by rw [List.length_append]; exact hown, fun i x c hx hc => ?_, fun x hx k hk' => ?_⟩
  · by_cases hi : i < vs.length
    · rw [List.getElem?_append_left hi] at hx
      rw [List.getElem?_append_left (by omega)] at hc
      exact hk x c (h.has i x c hx hc) (h.sep x (List.mem_of_getElem? hx))
    · rw [List.getElem?_append_right (by omega)] at hx
      rw [List.getElem?_append_right (by omega)] at hc
      have hi0 : i - vs.length = 0 := by
        have := (List.getElem?_eq_some_iff.1 hx).1
        simp at this
        omega
      rw [hi0] at hx
      rw [show i - ls.length = 0 by omega] at hc
      cases hx
      cases hc
      exact hk u b hu hne
  · rcases List.mem_append.1 hx with hx | hx
    · obtain ⟨c, hc⟩ := mem_rows h hx
      exact hs' x c hc (h.sep x hx) k hk'
    · have : x = u := by simpa using hx
      subst this
      exact hs' x b hu hne k hk'
end

/-- What is new. -/
def NewRows (B : Nat) (v : Value) (vs : List Value) : Prop := (∀ k, v.ownBlock = some k → B ≤ k) ∧ ∀ u ∈ vs, ∀ k, u.ownBlock = some k → B ≤ k

theorem NewRows.push {B : Nat} {w0 : World} {v v' u : Value} {vs : List Value} (h : NewRows B v vs) (hu : ∀ j, u.ownBlock = some j → B ≤ j) (hloc : v'.ownBlock = v.ownBlock ∨ ∃ g, v'.ownBlock = some g ∧ w0.heap.size ≤ g) (hB : B ≤ w0.heap.size) : NewRows B v' (vs ++ [u]) := by
  refine ⟨fun j hj => ?_, fun x hx j hj => ?_⟩
  · rcases hloc with e | ⟨g, e, hge⟩
    · exact h.1 j (e ▸ hj)
    · rw [hj] at e
      cases e
      omega
  · rcases List.mem_append.1 hx with hx | hx
    · exact h.2 x hx j hj
    · rw [List.mem_singleton] at hx
      exact hu j (hx ▸ hj)

def Scanned (w : World) (b : Bs) (e : Ending) (w' : World) : Prop := ∃ v vs, e = .returned (.tuple #[v, .int .i64 ((scan b).2 : Int)]) ∧ RowsIn w' v vs (scan b).1 ∧ NewRows w.heap.size v vs ∧ Below w.heap.size w w'

def ScanRel (w : World) (b : Bs) (n : Nat) (x y : Value) (wr : World) : Prop := ∃ (k : Nat) (v : Value) (vs : List Value) (ls : List Bs), k ≤ n ∧ y = .int .i64 k ∧ v = x ∧ ls.length ≤ k ∧ RowsIn wr v vs ls ∧ NewRows w.heap.size v vs ∧ Below w.heap.size w wr ∧ (scan b).1 = ls ++ (scan (b.drop k)).1 ∧ (scan b).2 = k + (scan (b.drop k)).2

set_option maxRecDepth 100000 in
set_option maxHeartbeats 4000000 in
theorem scan_calls {w : World} {p : Option Addr} {n c : Nat} {b : Bs} (h : HasB w (.slice p n c) b) (hnc : n ≤ c) (hl : b.length ≤ 1073741824) :
    Calls Tryz.prog 101 #[.slice p n c] w (Scanned w b) := by
  obtain ⟨i1, hi1, -, hs1, -⟩ := info_parts (show (Tryz.prog.info? 5).map (fun i => (i.zero, i.size, i.bytes)) = some (some (.int .u8 0), 1, 1) by kernel_rfl)
  obtain ⟨i0, hi, hz0, hz1, hz2⟩ := info_parts (show (Tryz.prog.info? 23).map (fun i => (i.zero, i.size, i.bytes)) = some (some (.slice none 0 0), 1, 24) by kernel_rfl)
  have hn : b.length = n := by obtain ⟨_, _, e⟩ := h.slice; simp only [Value.slice.injEq] at e; exact e.2.1.symm
  have hn30 : n ≤ 1073741824 := by omega
  have H := Lib.hid h
  have Hn := Lib.hid hn
  have Hnc := Lib.hid hnc
  clear h hn hnc hl
  go_enter Tryz.func101, Tryz.ntmps101
  go_wp2_with fail
  go_loopw [4, 5] (ScanRel w b n) (fun _ y _ => n - (intOf y).toNat)
  case atStart => exact ⟨0, _, [], [], Nat.zero_le _, rfl, rfl, Nat.zero_le _, RowsIn.nil _, ⟨fun k hk => (by cases hk), fun u hu => (by simp at hu)⟩, Below.refl _ _, by simp, by simp⟩
  case round =>
    obtain ⟨k, v, vs, ls, hk, rfl, rfl, hlk, hrow, hnew, hb, hsc1, hsc2⟩ := hrel
    by_cases hlt : k < n
    · obtain ⟨r0, hr0⟩ : ∃ r0, (Value.slice p n c).ownBlock ≠ some r0 := by
        cases (Value.slice p n c).ownBlock with
        | none => exact ⟨0, by simp⟩
        | some g => exact ⟨g + 1, by simp⟩
      obtain ⟨p', c', hsl, hh, hc', -⟩ := run_tail (P := Tryz.prog) Tryz.underlying23 hi1 hs1 (HasB.below H.out hb) Hnc.out r0 k hr0 (Nat.le_of_lt hlt)
      have Hd := Lib.hid (dec_calls hh hc' (by rw [List.length_drop, Hn.out]; omega))
      have Hx := Lib.hid (And.intro hrow (And.intro hnew (And.intro hb (And.intro hsc1 hsc2))))
      have hbl : (b.drop k).length = n - k := by rw [List.length_drop, Hn.out]
      clear hh hc' hrow hnew hb hsc1 hsc2
      by_cases he : decE (b.drop k) = 0
      · have hL := decL_pos he
        rw [hbl] at hL
        have Hgo := Lib.hid (scan_go he)
        rw [List.drop_drop] at Hgo
        unfold Decoded at Hd
        rw [he] at Hd
        generalize decL (b.drop k) = L at *
        generalize decB (b.drop k) = x at *
        clear he
        go_wp2_with fail
        refine Hd.out.mono ?_
        rintro e w2 ⟨v2, rfl, hv2, hn2, hb2⟩
        have hrow2 := Hx.out.1.below hb2
        have Hv2 := Lib.hid hv2
        have Hsep := Lib.hid (show ∀ j, v2.ownBlock = some j → v.ownBlock ≠ some j from fun j hj e => by have h1 := hn2 j hj; have h2 := OwnR.lt Hx.out.1.row e; omega)
        have Hn2 := Lib.hid (show ∀ j, v2.ownBlock = some j → w.heap.size ≤ j from fun j hj => Nat.le_trans Hx.out.2.2.1.size (hn2 j hj))
        have Hb2 := Lib.hid hb2
        have Hr2 := Lib.hid hrow2
        obtain ⟨p2, c2, rfl, -⟩ := own_cap0 hv2
        clear hv2 hn2 hb2 hrow2 Hd
        generalize hq : x.length = q at *
        have Hq := Lib.hid hq
        generalize hm : ls.length = m at *
        have Hm := Lib.hid hm
        clear hq hm
        have Hrow2 := Lib.hid (show OwnR w2 23 1 v m vs by have := Hr2.out.row; rwa [Hm.out] at this)
        go_wp2_with (at_builtin; have hal := Hrow2.out.keep (w' := w2.alloc (.cells #[.slice p2 q c2] 23)) (fun j hj => (below_one0 w2 _).block j (OwnR.lt Hrow2.out hj)); have hxx := slit_one w2 (.slice p2 q c2) 23 (0, 0); refine wpList_app _ rfl (.tmp 23) (.tmp 25) 22 rfl 23 i0 (.slice none 0 0) 1 24 Tryz.underlying22 hi hz0 hz1 hz2 rfl (by decide) v m _ rfl hal (.slice (some ⟨w2.heap.size, 0, none⟩) 1 1) 1 _ rfl hxx (by simp [Value.oneCell']) (by unfold maxLen; omega) (by omega) ?_; clear hal hxx; intro v3 w3 hown3 hgrow3 hloc3; go_loud (have hE := RowsIn.push (b := x) (Hr2.out.below (below_one0 w2 (.cells #[.slice p2 q c2] 23))) (OwnR.keep Hv2.out fun j hj => (below_one0 w2 _).block j (OwnR.lt Hv2.out hj)) Hsep.out (by rw [Hm.out]; exact hown3) hgrow3 hloc3; have hN := NewRows.push (u := .slice p2 q c2) Hx.out.2.1 Hn2.out hloc3 (by have h1 := Hx.out.2.2.1.size; have h2 := Hb2.out.size; have h3 := (below_one0 w2 (.cells #[.slice p2 q c2] 23)).size; omega); have hB : Below w.heap.size w w3 := by { have h1 := Hx.out.2.2.1.trans ((Hb2.out.trans ((below_one0 w2 (.cells #[.slice p2 q c2] 23)).mono Hb2.out.size)).mono Hx.out.2.2.1.size); exact ((Chg.of_below h1).trans (Chg.of_grown hgrow3) fun j hj e => by have h5 := Hx.out.2.1.1 j e.symm; omega).below (Nat.le_refl _) fun _ _ => id }; have HE := Lib.hid (And.intro hE (And.intro hN hB)); clear hE hN hB hgrow3 hloc3; obtain ⟨p3, q3, rfl⟩ := OwnR.shape hown3; clear hown3))
        go_roundw
        case rel => exact ⟨k + L, _, _, ls ++ [x], by omega, by go_num, rfl, by rw [List.length_append, Hm.out]; simp; omega, HE.out.1, HE.out.2.1, HE.out.2.2, by rw [Hx.out.2.2.2.1, Hgo.out]; simp, by rw [Hx.out.2.2.2.2, Hgo.out]; simp; omega⟩
        case measure => simp [intOf]; omega
      · have Hst := Lib.hid (scan_stop (.inr he))
        have hne : ((decE (b.drop k) : Int) != 0) = true := by simp; omega
        unfold Decoded at Hd
        generalize decE (b.drop k) = E at *
        generalize decL (b.drop k) = L at *
        go_wp2_with fail
        refine Hd.out.mono ?_
        rintro e w2 ⟨v2, rfl, -, -, hb2⟩
        have HE := Lib.hid (show Scanned w b (.returned (.tuple #[v, .int .i64 (k : Int)])) w2 from ⟨v, vs, by rw [Hx.out.2.2.2.2, Hst.out]; rfl, by rw [Hx.out.2.2.2.1, Hst.out, List.append_nil]; exact Hx.out.1.below hb2, Hx.out.2.1, Hx.out.2.2.1.trans (hb2.mono Hx.out.2.2.1.size)⟩)
        clear hb2 Hd
        go_wp2_with fail
        go_ret2
        exact HE.out
    · have he : b.drop k = [] := List.drop_of_length_le (by rw [Hn.out]; omega)
      rw [he, scan_stop (.inl rfl)] at hsc1 hsc2
      have HE := Lib.hid (show Scanned w b (.returned (.tuple #[v, .int .i64 (k : Int)])) wr from ⟨v, vs, by rw [hsc2]; rfl, by rw [hsc1, List.append_nil]; exact hrow, hnew, hb⟩)
      clear hrow hnew hb hsc1 hsc2 he
      go_wp2_with fail
      go_ret2
      exact HE.out
end Go.Proofs.YtngflpaooppmhaaGreat

namespace Go.Proofs.YtngflpaooppmhaaGreat
open Go.RowKit Go.Sat Go.Maps

def entV (e : Ent) (v : EV) : Value := .agg #[.int .i64 e.term, .int .i64 e.kind, v.1, v.2]
/-- An entry that was handed in. -/
structure EntHas (w : World) (e : Ent) (v : EV) : Prop where
  data : HasB w v.1 e.data
  nodes : HasI w v.2 e.nodes
  dl : e.data.length ≤ 1099511627776
  nl : e.nodes.length ≤ 1099511627776
theorem EntHas.below {w w' : World} {e : Ent} {v : EV} (h : EntHas w e v) (hb : Below w.heap.size w w') : EntHas w' e v := ⟨HasB.below h.data hb, Holds.chg h.nodes (Chg.of_below hb) fun _ _ => id, h.dl, h.nl⟩
theorem EntAt.has {w : World} {e : Ent} {v : EV} (h : EntAt w e v) (hd : e.data.length ≤ 1099511627776) (hn : e.nodes.length ≤ 1099511627776) : EntHas w e v := ⟨OwnB.has h.data, OwnI.has h.nodes, hd, hn⟩

theorem ent_zero {e : Ent} (hk : e.kind = 0) : isEnt e = (isTm e.term && decide (e.data.length = 0 ∧ e.nodes.length = 0)) := by
  unfold isEnt
  rw [if_pos hk]
  simp [List.length_eq_zero_iff]
theorem ent_one {e : Ent} (hk : e.kind = 1) : isEnt e = (isTm e.term && decide (1 ≤ e.data.length ∧ e.data.length ≤ 65536 ∧ e.nodes.length = 0)) := by
  unfold isEnt
  rw [if_neg (by omega), if_pos hk]
  simp [List.length_eq_zero_iff]
theorem ent_two {e : Ent} (hk : e.kind = 2) : isEnt e = (isTm e.term && (decide (e.data.length = 0) && isGrp e.nodes)) := by
  unfold isEnt
  rw [if_neg (by omega), if_neg (by omega), if_pos hk]
  simp [List.length_eq_zero_iff]
theorem ent_none {e : Ent} (h0 : e.kind ≠ 0) (h1 : e.kind ≠ 1) (h2 : e.kind ≠ 2) : isEnt e = false := by
  unfold isEnt
  rw [if_neg h0, if_neg h1, if_neg h2, Bool.and_false]

set_option maxRecDepth 100000 in
set_option maxHeartbeats 4000000 in
theorem isone_calls {w : World} {e : Ent} {v : EV} (h : EntHas w e v) :
    Calls Tryz.prog 111 #[entV e v] w fun r w' => r = .returned (.bool (isEnt e)) ∧ Below w.heap.size w w' := by
  obtain ⟨t, k, da, no⟩ := e
  obtain ⟨v1, v2⟩ := v
  have hb := below_one w (.cells #[.int .i64 t, .int .i64 k, v1, v2] 47)
  have Hg := Lib.hid (show Calls Tryz.prog 52 #[v2] (w.alloc (.cells #[.int .i64 t, .int .i64 k, v1, v2] 47)) fun e w' => e = .returned (.bool (isGrp no)) ∧ w' = w.alloc (.cells #[.int .i64 t, .int .i64 k, v1, v2] 47) from by
    have hn := (h.below hb).nodes
    obtain ⟨p, c, hv⟩ := hn.slice
    have hv' : v2 = .slice p no.length c := hv
    subst hv'
    exact isgrp_calls hn h.nl)
  have Ht := Lib.hid (istm_calls (w.alloc (.cells #[.int .i64 t, .int .i64 k, v1, v2] 47)) t)
  have HB := Lib.hid hb
  have hdl := h.dl
  have hnl := h.nl
  obtain ⟨p1, c1, e1⟩ := h.data.slice
  obtain ⟨p2, c2, e2⟩ := h.nodes.slice
  have e1' : v1 = .slice p1 da.length c1 := e1
  have e2' : v2 = .slice p2 no.length c2 := e2
  subst e1'
  subst e2'
  clear e1 e2 h hb
  dsimp only at hdl hnl
  have H0 := Lib.hid (ent_zero (e := ⟨t, k, da, no⟩))
  have H1 := Lib.hid (ent_one (e := ⟨t, k, da, no⟩))
  have H2 := Lib.hid (ent_two (e := ⟨t, k, da, no⟩))
  have H3 := Lib.hid (ent_none (e := ⟨t, k, da, no⟩))
  have Hno := Lib.hid (show isTm t = false → isEnt ⟨t, k, da, no⟩ = false from fun h => by unfold isEnt; rw [h, Bool.false_and])
  unfold entV
  dsimp only at H0 H1 H2 H3 ⊢
  generalize isEnt ⟨t, k, da, no⟩ = res at *
  cases ht : isTm t with
  | false =>
    rw [ht] at Ht
    have HE := Lib.hid (Hno.out ht)
    go_enter Tryz.func111, Tryz.ntmps111
    go_wp2_with fail
    refine Ht.out.mono ?_
    rintro e w' ⟨rfl, rfl⟩
    go_wp2_with fail
    go_ret
    exact ⟨by rw [HE.out]; rfl, HB.out⟩
  | true =>
    rw [ht] at Ht H0 H1 H2
    by_cases h0 : k = 0
    · have HE := Lib.hid (H0.out h0)
      have hb0 : (k == 0) = true := by simpa using h0
      clear h0 ht
      generalize da.length = n at *
      generalize no.length = m at *
      by_cases hn : n = 0
      · have hbn : ((n : Int) == 0) = true := by simp; omega
        have hdn : decide (n = 0 ∧ m = 0) = ((m : Int) == 0) := by rw [Bool.eq_iff_iff]; simp; omega
        rw [hdn] at HE
        clear hn hdn
        go_enter Tryz.func111, Tryz.ntmps111
        go_wp2_with fail
        refine Ht.out.mono ?_
        rintro e w' ⟨rfl, rfl⟩
        go_wp2_with fail
        go_ret
        exact ⟨by rw [HE.out]; simp, HB.out⟩
      · have hbn : ((n : Int) == 0) = false := by simp; omega
        have hdn : decide (n = 0 ∧ m = 0) = false := by simp; omega
        rw [hdn] at HE
        clear hn hdn
        go_enter Tryz.func111, Tryz.ntmps111
        go_wp2_with fail
        refine Ht.out.mono ?_
        rintro e w' ⟨rfl, rfl⟩
        go_wp2_with fail
        go_ret
        exact ⟨by rw [HE.out]; simp, HB.out⟩
    · have hb0 : (k == 0) = false := by simpa using h0
      by_cases h1 : k = 1
      · have HE := Lib.hid (H1.out h1)
        have hb1 : (k == 1) = true := by simpa using h1
        clear h0 ht h1
        generalize da.length = n at *
        generalize no.length = m at *
        by_cases hn : 1 ≤ n
        · by_cases hn6 : n ≤ 65536
          · have hd1 : decide ((1 : Int) ≤ (n : Int)) = true := by simp; omega
            have hd2 : decide ((n : Int) ≤ 65536) = true := by simp; omega
            have hdn : decide (1 ≤ n ∧ n ≤ 65536 ∧ m = 0) = ((m : Int) == 0) := by rw [Bool.eq_iff_iff]; simp; omega
            rw [hdn] at HE
            clear hdn
            go_enter Tryz.func111, Tryz.ntmps111
            go_wp2_with fail
            refine Ht.out.mono ?_
            rintro e w' ⟨rfl, rfl⟩
            go_wp2_with fail
            go_ret
            exact ⟨by rw [HE.out]; simp, HB.out⟩
          · have hd1 : decide ((1 : Int) ≤ (n : Int)) = true := by simp; omega
            have hd2 : decide ((n : Int) ≤ 65536) = false := by simp; omega
            have hdn : decide (1 ≤ n ∧ n ≤ 65536 ∧ m = 0) = false := by simp; omega
            rw [hdn] at HE
            clear hdn
            go_enter Tryz.func111, Tryz.ntmps111
            go_wp2_with fail
            refine Ht.out.mono ?_
            rintro e w' ⟨rfl, rfl⟩
            go_wp2_with fail
            go_ret
            exact ⟨by rw [HE.out]; simp, HB.out⟩
        · have hd1 : decide ((1 : Int) ≤ (n : Int)) = false := by simp; omega
          have hdn : decide (1 ≤ n ∧ n ≤ 65536 ∧ m = 0) = false := by simp; omega
          rw [hdn] at HE
          clear hdn
          go_enter Tryz.func111, Tryz.ntmps111
          go_wp2_with fail
          refine Ht.out.mono ?_
          rintro e w' ⟨rfl, rfl⟩
          go_wp2_with fail
          go_ret
          exact ⟨by rw [HE.out]; simp, HB.out⟩
      · have hb1 : (k == 1) = false := by simpa using h1
        by_cases h2 : k = 2
        · have HE := Lib.hid (H2.out h2)
          have hb2 : (k == 2) = true := by simpa using h2
          clear h0 ht h1 h2
          generalize da.length = n at *
          generalize no.length = m at *
          by_cases hn : n = 0
          · have hbn : ((n : Int) == 0) = true := by simp; omega
            have hdn : decide (n = 0) = true := by simpa using hn
            rw [hdn] at HE
            clear hn hdn
            go_enter Tryz.func111, Tryz.ntmps111
            go_wp2_with fail
            refine Ht.out.mono ?_
            rintro e w' ⟨rfl, rfl⟩
            go_wp2_with fail
            refine Hg.out.mono ?_
            rintro e w' ⟨rfl, rfl⟩
            go_wp2_with fail
            go_ret
            exact ⟨by rw [HE.out]; simp, HB.out⟩
          · have hbn : ((n : Int) == 0) = false := by simp; omega
            have hdn : decide (n = 0) = false := by simpa using hn
            rw [hdn] at HE
            clear hn hdn
            go_enter Tryz.func111, Tryz.ntmps111
            go_wp2_with fail
            refine Ht.out.mono ?_
            rintro e w' ⟨rfl, rfl⟩
            go_wp2_with fail
            go_ret
            exact ⟨by rw [HE.out]; simp, HB.out⟩
        · have hb2 : (k == 2) = false := by simpa using h2
          have HE := Lib.hid (H3.out h0 h1 h2)
          clear h0 h1 h2
          go_enter Tryz.func111, Tryz.ntmps111
          go_wp2_with fail
          refine Ht.out.mono ?_
          rintro e w' ⟨rfl, rfl⟩
          go_wp2_with fail
          go_ret
          exact ⟨by rw [HE.out]; rfl, HB.out⟩
end Go.Proofs.YtngflpaooppmhaaGreat

namespace Go.Proofs.YtngflpaooppmhaaGreat
open Go.RowKit Go.Sat Go.Maps

/-- An entry of one's own, of what was handed in. -/
def EntNew (w : World) (e : Ent) (r : Ending) (w' : World) : Prop := ∃ v : EV, r = .returned (entV e v) ∧ EntAt w' e v ∧ (∀ k, (v.1.ownBlock = some k ∨ v.2.ownBlock = some k) → w.heap.size ≤ k) ∧ Below w.heap.size w w'

set_option maxRecDepth 100000 in
set_option maxHeartbeats 4000000 in
theorem own_calls {w : World} {e : Ent} {v : EV} (h : EntHas w e v) : Calls Tryz.prog 74 #[entV e v] w (EntNew w e) := by
  obtain ⟨t, k, da, no⟩ := e
  obtain ⟨v1, v2⟩ := v
  have hb1 := below_one w (.cells #[.int .i64 t, .int .i64 k, v1, v2] 47)
  have hb2 : Below w.heap.size w ((w.alloc (.cells #[.int .i64 t, .int .i64 k, v1, v2] 47)).alloc (.cells #[.int .i64 0, .int .i64 0, .slice none 0 0, .slice none 0 0] 47)) := hb1.alloc hb1.size _
  have hbox : ((w.alloc (.cells #[.int .i64 t, .int .i64 k, v1, v2] 47)).alloc (.cells #[.int .i64 0, .int .i64 0, .slice none 0 0, .slice none 0 0] 47)).heap[w.heap.size]? = some (.cells #[.int .i64 t, .int .i64 k, v1, v2] 47 (0, 0)) := (al_old _ _ (by simp)).trans (new_block w _)
  have hres : ((w.alloc (.cells #[.int .i64 t, .int .i64 k, v1, v2] 47)).alloc (.cells #[.int .i64 0, .int .i64 0, .slice none 0 0, .slice none 0 0] 47)).heap[w.heap.size + 1]? = some (.cells #[.int .i64 0, .int .i64 0, .slice none 0 0, .slice none 0 0] 47 (0, 0)) := by
    have := new_block (w.alloc (.cells #[.int .i64 t, .int .i64 k, v1, v2] 47)) (.cells #[.int .i64 0, .int .i64 0, .slice none 0 0, .slice none 0 0] 47)
    simpa using this
  have H := Lib.hid h
  have hdl := h.dl
  have hnl := h.nl
  obtain ⟨p1, c1, e1⟩ := h.data.slice
  obtain ⟨p2, c2, e2⟩ := h.nodes.slice
  have e1' : v1 = .slice p1 da.length c1 := e1
  have e2' : v2 = .slice p2 no.length c2 := e2
  dsimp only at hdl hnl
  subst e1'
  subst e2'
  clear e1 e2 h hb1
  unfold entV
  dsimp only
  go_enter Tryz.func74, Tryz.ntmps74
  go_wp2_with fail
  generalize (w.alloc (.cells #[.int .i64 t, .int .i64 k, .slice p1 da.length c1, .slice p2 no.length c2] 47)).alloc (.cells #[.int .i64 0, .int .i64 0, .slice none 0 0, .slice none 0 0] 47) = W0 at *
  generalize hsz : w.heap.size = b at *
  have l2 := cell_of hbox (i := 2) rfl
  have l3 := cell_of hbox (i := 3) rfl
  have HX := Lib.hid (And.intro hbox (And.intro hres hb2))
  clear hbox hres hb2
  refine g_start [7, 9] (fun w' : World => w'.heap[b]? = some (.cells #[.int .i64 t, .int .i64 k, .slice p1 da.length c1, .slice p2 no.length c2] 47 (0, 0))) (n := 10) (by kernel_rfl) rfl (HX.out.1) (fun hHeld => ?_)
  clear l2 l3
  refine g_take 0 (v := ?v1x0) rfl (by kernel_rfl) (by kernel_rfl) (by kernel_rfl) (by kernel_rfl) (fun _ _ _ h => h) (by rfl) (by assumption) ?y1x0 ?_
  case y1x0 => (intro w hSw; (try dsimp only at hSw); go_simp; try with_reducible rfl)
  simp only [Act.put, List.setIfInBounds_toArray, List.set_cons_zero, List.set_cons_succ]
  refine g_take 1 (v := .slice p1 da.length c1) rfl (by kernel_rfl) (by kernel_rfl) (by kernel_rfl) (by kernel_rfl) (fun _ _ _ h => h) (by rfl) (by assumption) (fun W hSw => by have l2 := cell_of hSw (i := 2) rfl; go_simp; try with_reducible rfl) ?_
  simp only [Act.put, List.setIfInBounds_toArray, List.set_cons_zero, List.set_cons_succ]
  refine g_take 3 (v := ?v1x3) rfl (by kernel_rfl) (by kernel_rfl) (by kernel_rfl) (by kernel_rfl) (fun _ _ _ h => h) (by rfl) (by assumption) ?y1x3 ?_
  case y1x3 => (intro w hSw; (try dsimp only at hSw); go_simp; try with_reducible rfl)
  simp only [Act.put, List.setIfInBounds_toArray, List.set_cons_zero, List.set_cons_succ]
  refine g_take 4 (v := .slice p2 no.length c2) rfl (by kernel_rfl) (by kernel_rfl) (by kernel_rfl) (by kernel_rfl) (fun _ _ _ h => h) (by rfl) (by assumption) (fun W hSw => by have l3 := cell_of hSw (i := 3) rfl; go_simp; try with_reducible rfl) ?_
  simp only [Act.put, List.setIfInBounds_toArray, List.set_cons_zero, List.set_cons_succ]
  refine g_one 2 rfl (by kernel_rfl) (by rfl) (fun K hK => ?_)
  have Hc1 := Lib.hid (clone_calls (HasB.below (H.out.below (hsz ▸ HX.out.2.2)).data (below_drew W0)) (Nat.le_trans hdl (by decide)))
  go_wp2_with fail
  refine Hc1.out.mono ?_
  rintro r w3 ⟨v5, rfl, hv5, hn5, hb5⟩
  have HB5 := Lib.hid (show Below b w w3 from HX.out.2.2.trans ((below_drew W0).trans hb5 |>.mono (hsz ▸ HX.out.2.2.size)))
  have Hh3 := Lib.hid ((hb5.block b (Array.getElem?_eq_some_iff.1 hHeld).1).trans hHeld)
  have HR3 := Lib.hid (show w3.heap[b + 1]? = _ from (hb5.block (b + 1) (Array.getElem?_eq_some_iff.1 HX.out.2.1).1).trans HX.out.2.1)
  have HV5 := Lib.hid (And.intro hv5 (show ∀ k, v5.ownBlock = some k → b + 2 ≤ k from fun k hk => Nat.le_trans (by have := (Array.getElem?_eq_some_iff.1 HX.out.2.1).1; show b + 2 ≤ W0.heap.size; omega) (hn5 k hk)))
  obtain ⟨pv, cv, rfl, -⟩ := own_cap0 hv5
  clear hv5 hn5 hb5 Hc1
  go_wp2_with fail
  refine hK.out _ _ (Hh3.out) (fun hHeld => ?_)
  clear hK
  try simp only [Act.put, List.setIfInBounds_toArray, List.set_cons_zero, List.set_cons_succ]
  refine g_pure0 6 (v := ?v1x6) rfl (by kernel_rfl) (by kernel_rfl) (by kernel_rfl) (by kernel_rfl) (fun _ _ _ h => h) (by rfl) (by assumption) ?y1x6 ?_
  case y1x6 => (intro w; go_simp; try with_reducible rfl)
  simp only [Act.put, List.setIfInBounds_toArray, List.set_cons_zero, List.set_cons_succ]
  refine g_one 5 rfl (by kernel_rfl) (by rfl) (fun K hK => ?_)
  have Hc2 := Lib.hid (icl_calls (H.out.below (hsz ▸ HB5.out)).nodes hnl)
  go_wp2_with fail
  refine Hc2.out.mono ?_
  rintro r w4 ⟨v8, rfl, hv8, hn8, hb8⟩
  have HB8 := Lib.hid (show Below b w w4 from HB5.out.trans (hb8.mono (hsz ▸ HB5.out.size)))
  have Hh4 := Lib.hid ((hb8.block b (Array.getElem?_eq_some_iff.1 Hh3.out).1).trans Hh3.out)
  have HR4 := Lib.hid ((hb8.block (b + 1) (Array.getElem?_eq_some_iff.1 HR3.out).1).trans HR3.out)
  have HV4 := Lib.hid (And.intro (ownB_far HV5.out.1 hb8) (And.intro hv8 (show ∀ k, v8.ownBlock = some k → b + 2 ≤ k from fun k hk => Nat.le_trans (by have := (Array.getElem?_eq_some_iff.1 HR3.out).1; omega) (hn8 k hk))))
  have HV5n := Lib.hid HV5.out.2
  obtain ⟨pw, cw, rfl, -⟩ := own_capI hv8
  clear hv8 hn8 hb8 Hc2
  go_wp2_with fail
  refine hK.out _ _ (Hh4.out) (fun hHeld => ?_)
  clear hK
  try simp only [Act.put, List.setIfInBounds_toArray, List.set_cons_zero, List.set_cons_succ]
  refine g_end 7 rfl (by kernel_rfl) (by rfl) (by kernel_rfl) (fun K hK => ?_)
  have c2w := cell_of Hh4.out (i := 2) rfl
  have f2w := frozen_of Hh4.out 2
  have Hs1 := Lib.hid (set_block Hh4.out 2 (.slice pv da.length cv))
  go_wp2_with fail
  refine hK.out _ _ ?_
  clear hK
  try simp only [Act.put, List.setIfInBounds_toArray, List.set_cons_zero, List.set_cons_succ]
  refine g_pure 8 (v := ?v1x8) rfl (by kernel_rfl) (by kernel_rfl) (by kernel_rfl) (by kernel_rfl) (fun _ _ _ h => h) (by rfl) ?y1x8 ?_
  case y1x8 => (intro w; go_simp; try with_reducible rfl)
  simp only [Act.put, List.setIfInBounds_toArray, List.set_cons_zero, List.set_cons_succ]
  refine g_end 9 rfl (by kernel_rfl) (by rfl) (by kernel_rfl) (fun K hK => ?_)
  have c3w := cell_of Hs1.out (i := 3) rfl
  have f3w := frozen_of Hs1.out 3
  have Hs2 := Lib.hid (set_block Hs1.out 3 (.slice pw no.length cw))
  go_wp2_with fail
  refine hK.out _ _ ?_
  clear hK
  try simp only [Act.put, List.setIfInBounds_toArray, List.set_cons_zero, List.set_cons_succ]
  refine g_done (by kernel_rfl) ?_ _
  have hs2 : ((w4.setCell ⟨b, 2, none⟩ (.slice pv da.length cv)).setCell ⟨b, 3, none⟩ (.slice pw no.length cw)).heap[b]? = some (.cells #[.int .i64 t, .int .i64 k, .slice pv da.length cv, .slice pw no.length cw] 47 (0, 0)) := by simpa using Hs2.out
  have hr2 : ((w4.setCell ⟨b, 2, none⟩ (.slice pv da.length cv)).setCell ⟨b, 3, none⟩ (.slice pw no.length cw)).heap[b + 1]? = some (.cells #[.int .i64 0, .int .i64 0, .slice none 0 0, .slice none 0 0] 47 (0, 0)) := (set_other _ (by show b + 1 ≠ b; omega)).trans ((set_other _ (by show b + 1 ≠ b; omega)).trans HR4.out)
  have HF := Lib.hid (show Chg (fun j => j = b) w4 ((w4.setCell ⟨b, 2, none⟩ (.slice pv da.length cv)).setCell ⟨b, 3, none⟩ (.slice pw no.length cw)) from (Chg.setCell w4 ⟨b, 2, none⟩ _).trans (Chg.setCell _ ⟨b, 3, none⟩ _) fun _ _ e => e)
  clear c2w f2w c3w f3w Hs1 Hs2
  generalize (w4.setCell ⟨b, 2, none⟩ (.slice pv da.length cv)).setCell ⟨b, 3, none⟩ (.slice pw no.length cw) = W5 at *
  have d0 := cell_of hs2 (i := 0) rfl
  have d1 := cell_of hs2 (i := 1) rfl
  have d2 := cell_of hs2 (i := 2) rfl
  have d3 := cell_of hs2 (i := 3) rfl
  have e0 := cell_of hr2 (i := 0) rfl
  have e1 := cell_of hr2 (i := 1) rfl
  have e2 := cell_of hr2 (i := 2) rfl
  have e3 := cell_of hr2 (i := 3) rfl
  have fr := frozen_of hr2
  have HR5 := Lib.hid hr2
  clear hs2 hr2
  go_wp2_with fail
  have hz2 : ((((W5.setCell ⟨b + 1, 0, none⟩ (.int .i64 t)).setCell ⟨b + 1, 1, none⟩ (.int .i64 k)).setCell ⟨b + 1, 2, none⟩ (.slice pv da.length cv)).setCell ⟨b + 1, 3, none⟩ (.slice pw no.length cw)).heap[b + 1]? = some (.cells #[.int .i64 t, .int .i64 k, .slice pv da.length cv, .slice pw no.length cw] 47 (0, 0)) := by
    have h1 := set_block HR5.out 0 (.int .i64 t)
    have h2 := set_block h1 1 (.int .i64 k)
    have h3 := set_block h2 2 (.slice pv da.length cv)
    have h4 := set_block h3 3 (.slice pw no.length cw)
    simpa using h4
  have HG := Lib.hid (show Chg (fun j => j = b + 1) W5 ((((W5.setCell ⟨b + 1, 0, none⟩ (.int .i64 t)).setCell ⟨b + 1, 1, none⟩ (.int .i64 k)).setCell ⟨b + 1, 2, none⟩ (.slice pv da.length cv)).setCell ⟨b + 1, 3, none⟩ (.slice pw no.length cw)) from (((Chg.setCell W5 ⟨b + 1, 0, none⟩ _).trans (Chg.setCell _ ⟨b + 1, 1, none⟩ _) fun _ _ e => e).trans (Chg.setCell _ ⟨b + 1, 2, none⟩ _) fun _ _ e => e).trans (Chg.setCell _ ⟨b + 1, 3, none⟩ _) fun _ _ e => e)
  clear d0 d1 d2 d3 e0 e1 e2 e3 fr
  generalize (((W5.setCell ⟨b + 1, 0, none⟩ (.int .i64 t)).setCell ⟨b + 1, 1, none⟩ (.int .i64 k)).setCell ⟨b + 1, 2, none⟩ (.slice pv da.length cv)).setCell ⟨b + 1, 3, none⟩ (.slice pw no.length cw) = W6 at *
  have z0 := cell_of hz2 (i := 0) rfl
  have z1 := cell_of hz2 (i := 1) rfl
  have z2 := cell_of hz2 (i := 2) rfl
  have z3 := cell_of hz2 (i := 3) rfl
  have HE := Lib.hid (show EntNew w ⟨t, k, da, no⟩ (.returned (entV ⟨t, k, da, no⟩ (.slice pv da.length cv, .slice pw no.length cw))) W6 from by
    have hC : Chg (fun j => j = b ∨ j = b + 1) w4 W6 := (HF.out.mono fun _ _ e => .inl e).trans (HG.out.mono (T := fun j => j = b ∨ j = b + 1) fun _ _ e => .inr e) fun _ _ e => e
    refine ⟨(.slice pv da.length cv, .slice pw no.length cw), rfl, ⟨OwnR.keep HV4.out.1 fun j hj => hC.block j (OwnR.lt HV4.out.1 hj) fun e => ?_, OwnR.keep HV4.out.2.1 fun j hj => hC.block j (OwnR.lt HV4.out.2.1 hj) fun e => ?_⟩, fun j hj => ?_, ?_⟩
    · have := HV5n.out j hj
      omega
    · have := HV4.out.2.2 j hj
      omega
    · rcases hj with hj | hj
      · have := HV5n.out j hj
        omega
      · have := HV4.out.2.2 j hj
        omega
    · have hb8 : Below w.heap.size w w4 := by rw [hsz]; exact HB8.out
      exact ((Chg.of_below hb8).trans hC fun i hi e => by omega : Chg (fun _ => False) w W6).below (Nat.le_refl _) fun _ _ e => e)
  (try simp only [Exit.inBlock, Exit.then])
  refine bodyPost_ret (results_cell_row rfl _ W6 (b + 1) _ _ (0, 0) _ rfl hz2 Tryz.underlying47 rfl (by kernel_rfl)) rfl ?_
  exact HE.out
end Go.Proofs.YtngflpaooppmhaaGreat
