/- What keep.Save leaves on a disk with room (plain laws). What keep.Load says of what keep.Save left, behind a crash too; rows that are laid out; a nil disk. The contract of satrapylaw4.known: it is true. KeepApart: what the disk keeps (a plain law). The document's disk: a cell of a file is written; Sync. The document's disk: Truncate. (Its walk is printed by mkr.py.) The document's disk: its list of files is laid anew; parts of a list. -/
import Derived.StillTailTactics
import Derived.Test.YtdlbamhabenhgaaVD
import Derived.Test.YtdlbamhabenhgaaVF
namespace Go.Sat
theorem del_put {α : Type} {L : List (Bs × α)} (h : Srt L) (n : Bs) (a : α) : del n (put n a L) = del n L := by
  refine srt_ext (srt_del (srt_put h)) (srt_del h) fun m => ?_
  by_cases e : m = n
  · subst e
    rw [get_del_same, get_del_same]
  · rw [get_del_other (srt_put h) e, get_put_other h a e, get_del_other h e]

theorem put_put {α : Type} {L : List (Bs × α)} (h : Srt L) (n : Bs) (a b : α) : put n b (put n a L) = put n b L := by
  show ins (n, b) (del n (put n a L)) = ins (n, b) (del n L)
  rw [del_put h]
end Go.Sat

namespace Go.Proofs.Ytdlbamhabenhgaa
open Go.RowKit Go.Sat Go.Maps

theorem shadow_len (n : Bs) : (shadowN n).length = n.length + 1 := by simp [shadowN]
theorem shadow_ne (n : Bs) : n ≠ shadowN n := fun e => by
  have := congrArg List.length e
  rw [shadow_len] at this
  omega

/-- So many steps behind. -/
def offF (f : Option Nat) (k : Nat) : Option Nat := f.map (· - k)

section
variable {D : DiskM} {n l : Bs}

theorem save_app (_h : D.OK) (hf : D.fuse ≠ some 0) (hn1 : 1 ≤ n.length) (hn : n.length ≤ 60) (hsh : Sat.get (shadowN n) D.files = none) (hroom : D.used + l.length + 12 ≤ D.room) (hc : D.files.length < 4096) :
    D.append (shadowN n) (frameN l) = (⟨D.room, put (shadowN n) ⟨frameN l, 0⟩ D.files, offF D.fuse 1⟩, 0) := by
  have hm : D.may [shadowN n] = 0 := by
    unfold DiskM.may
    rw [if_neg hf, if_pos]
    simp only [List.all_cons, List.all_nil, Bool.and_true, okN, shadow_len]
    simp; omega
  have hfu : D.full (shadowN n) (frameN l) = false := by
    unfold DiskM.full
    rw [frame_len, hsh]
    simp; omega
  unfold DiskM.append
  rw [if_neg (by rw [hm]; simp), if_neg (by rw [hfu]; simp)]
  have hcur : D.cur (shadowN n) = ⟨[], 0⟩ := by unfold DiskM.cur; rw [hsh]; rfl
  rw [hcur]
  rfl

theorem save_syn {room : Nat} {L : List (Bs × FileM)} {f : Option Nat} (h : Srt L) (hf : f ≠ some 0) (hn1 : 1 ≤ n.length) (hn : n.length ≤ 60) :
    DiskM.sync ⟨room, put (shadowN n) ⟨frameN l, 0⟩ L, f⟩ [shadowN n] = (⟨room, put (shadowN n) ⟨frameN l, (frameN l).length⟩ L, offF f 1⟩, 0) := by
  have hm : DiskM.may ⟨room, put (shadowN n) ⟨frameN l, 0⟩ L, f⟩ [shadowN n] = 0 := by
    unfold DiskM.may
    rw [if_neg hf, if_pos]
    simp only [List.all_cons, List.all_nil, Bool.and_true, okN, shadow_len]
    simp; omega
  have h1 : DiskM.each1 DiskM.gSync ⟨room, put (shadowN n) ⟨frameN l, 0⟩ L, f⟩ (shadowN n) = (⟨room, put (shadowN n) ⟨frameN l, (frameN l).length⟩ L, offF f 1⟩, 0) := by
    unfold DiskM.each1
    rw [if_neg (by rw [hm]; simp)]
    have hg : Sat.get (shadowN n) (DiskM.files ⟨room, put (shadowN n) ⟨frameN l, 0⟩ L, f⟩) = some ⟨frameN l, 0⟩ := get_put_same h _ _
    rw [hg]
    show ((⟨room, put _ _ (put _ _ L), _⟩ : DiskM), 0) = _
    rw [put_put h]
    rfl
  show (if (DiskM.each1 _ _ _).2 = 0 then _ else _) = _
  rw [h1, if_pos rfl]
  rfl

theorem save_ren {room : Nat} {L : List (Bs × FileM)} {f : Option Nat} {g : FileM} (h : Srt L) (hf : f ≠ some 0) (hn1 : 1 ≤ n.length) (hn : n.length ≤ 60) (hsh : Sat.get (shadowN n) L = none) :
    DiskM.rename ⟨room, put (shadowN n) g L, f⟩ (shadowN n) n = (⟨room, put n g L, offF f 1⟩, 0) := by
  have hm : DiskM.may ⟨room, put (shadowN n) g L, f⟩ [shadowN n, n] = 0 := by
    unfold DiskM.may
    rw [if_neg hf, if_pos]
    simp only [List.all_cons, List.all_nil, Bool.and_true, okN, shadow_len]
    simp; omega
  unfold DiskM.rename
  rw [if_neg (by rw [hm]; simp)]
  have hg : Sat.get (shadowN n) (DiskM.files ⟨room, put (shadowN n) g L, f⟩) = some g := get_put_same h _ _
  rw [hg]
  show ((⟨room, put n g (del (shadowN n) (put (shadowN n) g L)), _⟩ : DiskM), 0) = _
  rw [del_put h, del_none hsh]
  rfl

theorem off_ne {f : Option Nat} {k : Nat} (hf : ∀ j, f = some j → k < j) : offF f k ≠ some 0 := by
  cases f with
  | none => intro h; cases h
  | some j =>
    have := hf j rfl
    intro h
    have := Option.some.inj (show some (j - k) = some 0 from h)
    omega
theorem off_off (f : Option Nat) (a b : Nat) : offF (offF f a) b = offF f (a + b) := by
  cases f with
  | none => rfl
  | some j => exact congrArg some (Nat.sub_sub _ _ _)

theorem save_room (hn1 : 1 ≤ n.length) (hn : n.length ≤ 60) : D.save n l = D.save1 n (frameN l) := by
  unfold DiskM.save
  rw [if_neg (by omega)]

/-- A Save that is done: three steps of the fuse. -/
theorem save_all (h : D.OK) (hf : ∀ j, D.fuse = some j → 3 ≤ j) (hn1 : 1 ≤ n.length) (hn : n.length ≤ 60) (hsh : Sat.get (shadowN n) D.files = none) (hroom : D.used + l.length + 12 ≤ D.room) (hc : D.files.length < 4096) :
    D.save n l = (⟨D.room, put n ⟨frameN l, (frameN l).length⟩ D.files, offF D.fuse 3⟩, 0) := by
  have h0 : D.save0 n = (D, 0) := by unfold DiskM.save0; rw [hsh]; rfl
  have hz : D.fuse ≠ some 0 := fun e => by have := hf 0 e; omega
  rw [save_room hn1 hn, save1_ren h0 (save_app h hz hn1 hn hsh hroom hc) (save_syn h.srt (off_ne fun j e => by have := hf j e; omega) hn1 hn), off_off,
    save_ren h.srt (off_ne fun j e => by have := hf j e; omega) hn1 hn hsh, off_off]

theorem may_burn {D : DiskM} (hf : D.fuse = some 0) (ns : List Bs) : D.may ns = 9 := by unfold DiskM.may; rw [if_pos hf]

/-- A Save that the fuse cuts off: what has the name stays. -/
theorem save_cut (h : D.OK) {j : Nat} (hf : D.fuse = some j) (hj : j < 3) (hn1 : 1 ≤ n.length) (hn : n.length ≤ 60) (hsh : Sat.get (shadowN n) D.files = none) (hroom : D.used + l.length + 12 ≤ D.room) (hc : D.files.length < 4096) :
    ∃ D', D.save n l = (D', 9) ∧ Sat.get n D'.files = Sat.get n D.files := by
  have h0 : D.save0 n = (D, 0) := by unfold DiskM.save0; rw [hsh]; rfl
  rw [save_room hn1 hn]
  by_cases hj0 : j = 0
  · subst hj0
    refine ⟨D, ?_, rfl⟩
    refine save1_app h0 ?_ (by decide)
    unfold DiskM.append
    rw [may_burn hf, if_pos (by decide)]
  · have hz : D.fuse ≠ some 0 := by rw [hf]; intro e; exact hj0 (Option.some.inj e)
    have ha := save_app (l := l) h hz hn1 hn hsh hroom hc
    by_cases hj1 : j = 1
    · subst hj1
      refine ⟨⟨D.room, put (shadowN n) ⟨frameN l, 0⟩ D.files, offF D.fuse 1⟩, save1_syn h0 ha ?_ (by decide), get_put_other h.srt _ (shadow_ne n)⟩
      have hm : DiskM.may ⟨D.room, put (shadowN n) ⟨frameN l, 0⟩ D.files, offF D.fuse 1⟩ [shadowN n] = 9 := may_burn (by rw [hf]; rfl) _
      have h1 : DiskM.each1 DiskM.gSync ⟨D.room, put (shadowN n) ⟨frameN l, 0⟩ D.files, offF D.fuse 1⟩ (shadowN n) = (⟨D.room, put (shadowN n) ⟨frameN l, 0⟩ D.files, offF D.fuse 1⟩, 9) := by
        unfold DiskM.each1
        rw [hm, if_pos (by decide)]
      show (if (DiskM.each1 _ _ _).2 = 0 then _ else _) = _
      rw [h1, if_neg (by simp)]
    · have hj2 : j = 2 := by omega
      subst hj2
      have hs := save_syn (l := l) (room := D.room) h.srt (f := offF D.fuse 1) (off_ne fun j e => by rw [hf] at e; cases e; omega) hn1 hn
      rw [save1_ren h0 ha hs]
      refine ⟨⟨D.room, put (shadowN n) ⟨frameN l, (frameN l).length⟩ D.files, offF (offF D.fuse 1) 1⟩, ?_, get_put_other h.srt _ (shadow_ne n)⟩
      unfold DiskM.rename
      rw [may_burn (by rw [hf]; rfl), if_pos (by decide)]
end
end Go.Proofs.Ytdlbamhabenhgaa

namespace Go.Proofs.Ytdlbamhabenhgaa
open Go.RowKit Go.Sat Go.Maps

theorem stays_whole (b : Bs) (k : Int) : DiskM.stays ⟨b, b.length⟩ k = b.length := by
  show b.length + (max 0 k).toNat % (b.length - b.length + 1) = b.length
  rw [Nat.sub_self, Nat.zero_add, Nat.mod_one, Nat.add_zero]

theorem crash_whole (b : Bs) (k : Int) : DiskM.crashF k ⟨b, b.length⟩ = ⟨b, b.length⟩ := by
  show (⟨b.take (DiskM.stays ⟨b, b.length⟩ k), DiskM.stays ⟨b, b.length⟩ k⟩ : FileM) = _
  rw [stays_whole, List.take_length]

theorem get_crash (D : DiskM) (n : Bs) (k : Int) : Sat.get n (D.crash k).files = (Sat.get n D.files).map (DiskM.crashF k) := mp_get _ _ _

theorem get_crash_whole {D : DiskM} {n b : Bs} (h : Sat.get n D.files = some ⟨b, b.length⟩) (k : Int) : Sat.get n (D.crash k).files = some ⟨b, b.length⟩ := by
  rw [get_crash, h, Option.map_some, crash_whole]
theorem get_crash_none {D : DiskM} {n : Bs} (h : Sat.get n D.files = none) (k : Int) : Sat.get n (D.crash k).files = none := by
  rw [get_crash, h, Option.map_none]

theorem load_frame (l : Bs) (h : l.length ≤ 1048576) (k : Nat) : loadE (some ⟨frameN l, k⟩) = 0 ∧ loadB (some ⟨frameN l, k⟩) = l := by
  have e : dataOf (some ⟨frameN l, k⟩) = frameN l := rfl
  rw [loadE_some, loadB_some, e, frame_oneE l h, frame_oneB l h]
  exact ⟨if_pos rfl, rfl⟩

/-- A list of rows, in a new block. -/
theorem rows_lits {w : World} {vs : List Value} {ls : List Bs} (h : ∀ (i : Nat) (u : Value) (l : Bs), vs[i]? = some u → ls[i]? = some l → HasB w u l) (hlen : vs.length = ls.length) (e : TypeId) (fr : Nat × Nat) (g c : Nat) (hg : g = w.heap.size) (hc : ls.length ≤ c) :
    RowsAt (w.alloc (.cells vs.toArray e fr)) (.slice (some ⟨g, 0, none⟩) ls.length c) ls := by
  subst hg
  refine ⟨_, c, rfl, hc, fun _ => ⟨_, _, vs, rfl, hlen, fun i u hu => ?_, fun i u m hu hm => ?_⟩⟩
  · rw [add_zero]
    refine cell_of (new_block w _) ?_
    simpa using hu
  · exact (has_alloc (h i u m hu hm) _).kit

theorem rows_two' {w : World} {a b : Value} {x y : Bs} (ha : HasB w a x) (hb : HasB w b y) (e : TypeId) (fr : Nat × Nat) (g c : Nat) (hg : g = w.heap.size) (hc : 2 ≤ c) :
    RowsAt (w.alloc (.cells #[a, b] e fr)) (.slice (some ⟨g, 0, none⟩) 2 c) [x, y] :=
  rows_lits (vs := [a, b]) (ls := [x, y]) (fun i u l hu hl => by
    match i, hu, hl with
    | 0, hu, hl => cases hu; cases hl; exact ha
    | 1, hu, hl => cases hu; cases hl; exact hb) rfl e fr g c hg hc

set_option maxRecDepth 100000 in
theorem save_nil (s : ByteArray) (x : Value) (w : World) : Calls Try.prog 25 #[.pointer none, .string s, x] w fun e w' => e = .returned (.int .i64 1) ∧ w' = w := by
  go_enter Try.func25, Try.ntmps25
  go_wp2_with fail
  go_ret
  exact ⟨rfl, rfl⟩

set_option maxRecDepth 100000 in
theorem load_nil (s : ByteArray) (w : World) : Calls Try.prog 26 #[.pointer none, .string s] w fun e w' => e = .returned (.tuple #[.slice none 0 0, .int .i64 1]) ∧ w' = w := by
  go_enter Try.func26, Try.ntmps26
  go_wp2_with fail
  go_ret2
  exact ⟨rfl, rfl⟩

set_option maxRecDepth 100000 in
theorem clear_nil (s : ByteArray) (x : Value) (w : World) : Calls Try.prog 38 #[.pointer none, .string s, x] w fun e w' => e = .returned (.int .i64 1) ∧ w' = w := by
  go_enter Try.func38, Try.ntmps38
  go_wp2_with fail
  go_ret
  exact ⟨rfl, rfl⟩
end Go.Proofs.Ytdlbamhabenhgaa

namespace Go.Proofs.Ytdlbamhabenhgaa
open Go.RowKit Go.Sat Go.Maps

def b12' : Bs := [49, 50]
def b3' : Bs := [51]
def b123 : Bs := [49, 50, 51]
def Q0 : DiskM := DiskM.fresh 1000
def Q1 : DiskM := ⟨1000, [([97], ⟨frameN b123, (frameN b123).length⟩)], none⟩

theorem q1 : Q0.save (nm sA) [b12', b3'].flatten = (Q1, 0) :=
  save_all (D := Q0) (n := [97]) (l := b123) (ok_fresh 1000 (by decide)) (fun j h => by cases h) (by decide) (by decide) rfl (by decide) (by decide)

theorem q2 (k : Int) : Sat.get (nm sA) (Q1.crash k).files = some ⟨frameN b123, (frameN b123).length⟩ := get_crash_whole (D := Q1) (n := [97]) rfl k

theorem conv_at (P : Program) (w : World) (o : Obj) (t e : TypeId) (C : Array Value) (n c : Nat) (ht : P.underlying t = some (.slice e)) (he : P.underlying e = some (.int .u8)) :
    (convert t t (.slice (some ⟨w.heap.size + 1, 0, none⟩) n c)).run P ((w.alloc o).alloc (.cells C e)) = .ok (.slice (some ⟨w.heap.size + 1, 0, none⟩) n c) ((w.alloc o).alloc (.cells C e (C.size, C.size + 1))) := by
  have h := Lib.run_convert_bytes_const (P := P) (w.alloc o) t e C n c ht he
  rw [show (w.alloc o).heap.size = w.heap.size + 1 from World.size_alloc w o] at h
  exact h

set_option maxRecDepth 100000 in
set_option maxHeartbeats 2000000 in
theorem known4_calls (w : World) : Calls Try.prog 24 #[] w (True3 w) := by
  have Hnew := Lib.hid (st_new (w := w) (w1 := w) 1000 (by decide) (by decide) (Below.refl _ _))
  have kc := fun (w : World) (C : Array Value) (n c : Nat) => Lib.run_convert_bytes_const (P := Try.prog) w 23 5 C n c Try.underlying23 Try.underlying5
  have kc2 := fun (o : Obj) (C : Array Value) (n c : Nat) (w : World) => conv_at Try.prog w o 23 5 C n c Try.underlying23 Try.underlying5
  go_enter Try.func24, Try.ntmps24
  go_wp2_with fail
  refine Hnew.out.mono ?_
  rintro e w1 ⟨d, rfl, hd⟩
  have Hd := Lib.hid (show St w w1 d Q0 NoF from hd)
  clear hd Hnew
  go_wp2_with fail
  have hrw := rows_two' (w := (w1.alloc (.cells #[.int .u8 49, .int .u8 50] 5 (2, 3))).alloc (.cells #[.int .u8 51] 5 (1, 2))) (a := .slice (some ⟨w1.heap.size, 0, none⟩) 2 2) (b := .slice (some ⟨w1.heap.size + 1, 0, none⟩) 1 1)
    (has_alloc (has_lit _ b12' _ 2 2 rfl rfl rfl) _) (has_lit _ b3' _ 1 1 (by simp) rfl rfl) 23 (0, 0) (w1.heap.size + 1 + 1) 2 (by simp) (Nat.le_refl _)
  refine (save_calls (((Hd.out.alloc _).alloc _).alloc _) sA (by decide) (ls := [b12', b3']) hrw (by decide) (by decide)).mono ?_
  rw [q1]
  rintro e w2 ⟨rfl, hd2, -⟩
  have Hd2 := Lib.hid hd2
  clear hd2 Hd
  go_wp2_with fail
  refine (st_crash Hd2.out 0 (by decide) (by decide)).mono ?_
  rintro e w3 ⟨rfl, hd3, -⟩
  have hld := load_calls hd3 sA (by decide)
  rw [q2] at hld
  unfold GotL at hld
  rw [(load_frame b123 (by decide) _).1, (load_frame b123 (by decide) _).2] at hld
  have Hld := Lib.hid hld
  clear hld hd3 Hd2
  go_wp2_with fail
  refine Hld.out.mono ?_
  rintro e w4 ⟨v, rfl, hv, -, -, hd4⟩
  have Hd4 := Lib.hid hd4
  have Hv := Lib.hid hv
  clear hv hd4 Hld
  go_wp2_with fail
  refine (same4_calls (has_alloc Hv.out.has _) (has_lit _ b123 _ _ 3 rfl rfl rfl) (by decide) (by decide)).mono ?_
  rintro e w5 ⟨rfl, q, rfl⟩
  have Hb := Lib.hid ((Hd4.out.alloc (.cells ((b123.map fun u => Value.int .u8 (u.toNat : Int)).toArray) 5 (3, 4))).drewN q).below
  go_wp2_with fail
  go_ret
  exact ⟨rfl, Hb.out⟩
end Go.Proofs.Ytdlbamhabenhgaa

namespace Go.Proofs.Ytdlbamhabenhgaa
open Go.RowKit Go.Sat Go.Maps

def p1N : Bs := [112, 45, 49]
def p2N : Bs := [112, 45, 50]
def qN : Bs := [113]
def pN : Bs := [112, 45]
/-- A file that was saved. -/
def fl (x : Bs) : FileM := ⟨frameN x, (frameN x).length⟩

theorem each_one (g : Bs → FileM → List (Bs × FileM) → List (Bs × FileM)) (D : DiskM) (n : Bs) : D.each g [n] = D.each1 g n := by
  cases h : D.each1 g n with
  | mk D1 e1 =>
    unfold DiskM.each
    rw [h]
    by_cases he : e1 = 0
    · subst he
      rw [if_pos rfl]
      rfl
    · rw [if_neg he]

theorem fl_size (x : Bs) : DiskM.size (fl x) = x.length + 12 := frame_len x

def aD1 (a : Bs) : DiskM := ⟨1048576, [(p1N, fl a)], none⟩
def aD2 (a b : Bs) : DiskM := ⟨1048576, [(p1N, fl a), (p2N, fl b)], none⟩
def aD3 (a b c : Bs) : DiskM := ⟨1048576, [(p1N, fl a), (p2N, fl b), (qN, fl c)], none⟩
def aD5 (b c : Bs) : DiskM := ⟨1048576, [(p2N, fl b), (qN, fl c)], none⟩

theorem ap_save {L : List (Bs × FileM)} (h : DiskM.OK ⟨1048576, L, none⟩) {n l : Bs} (hn1 : 1 ≤ n.length) (hn : n.length ≤ 60) (hsh : Sat.get (shadowN n) L = none) (hroom : sumBy DiskM.size L + l.length + 12 ≤ 1048576) (hc : L.length < 4096) :
    DiskM.save ⟨1048576, L, none⟩ n l = (⟨1048576, put n (fl l) L, none⟩, 0) :=
  save_all h (fun j e => by cases e) hn1 hn hsh hroom hc

section
variable {a b c : Bs}
theorem ap1 (h : a.length ≤ 5000) : (DiskM.fresh 1048576).save p1N a = (aD1 a, 0) :=
  ap_save (L := []) (ok_fresh 1048576 (by decide)) (by decide) (by decide) rfl (by simp [sumBy]; omega) (by decide)

theorem ap2 (h : a.length + b.length ≤ 5000) (ok : (aD1 a).OK) : (aD1 a).save p2N b = (aD2 a b, 0) :=
  ap_save (L := [(p1N, fl a)]) ok (by decide) (by decide) rfl (by simp [sumBy, fl_size]; omega) (by simp)

theorem ap3 (h : a.length + b.length + c.length ≤ 5000) (ok : (aD2 a b).OK) : (aD2 a b).save qN c = (aD3 a b c, 0) :=
  ap_save (L := [(p1N, fl a), (p2N, fl b)]) ok (by decide) (by decide) rfl (by simp [sumBy, fl_size]; omega) (by simp)

theorem ap4 (h : a.length + b.length + c.length ≤ 5000) (ok : (aD3 a b c).OK) : (aD3 a b c).save p2N (b ++ a) = (aD3 a (b ++ a) c, 0) :=
  ap_save (L := [(p1N, fl a), (p2N, fl b), (qN, fl c)]) ok (by decide) (by decide) rfl (by simp [sumBy, fl_size]; omega) (by simp)

theorem ap_crash (k : Int) : (aD3 a b c).crash k = aD3 a b c := by
  unfold DiskM.crash aD3 mp
  simp only [List.map_cons, List.map_nil, fl, crash_whole]

theorem ap_rem : (aD3 a b c).remove [p1N] = (aD5 b c, 0) := by
  exact (each_one _ _ _).trans rfl

theorem ap_clear : (aD3 a b c).clear pN [p2N, qN] = (aD5 b c, 0) := by
  unfold DiskM.clear
  rw [show namesOf (aD3 a b c) = [p1N, p2N, qN] from rfl, DiskM.clearL_go (by rfl) ap_rem, DiskM.clearL_skip (by rfl), DiskM.clearL_skip (by rfl)]
  rfl
theorem ap_names : namesOf (aD5 b c) = [p2N, qN] := rfl
end
end Go.Proofs.Ytdlbamhabenhgaa

namespace Go.Sat
open Go.RowKit
theorem OwnR.set {w : World} {e : TypeId} {size : Nat} {v : Value} {n : Nat} {xs : List Value} (h : OwnR w e size v n xs) {g : Nat} (hg : v.ownBlock = some g) (j : Nat) (u : Value) : OwnR (w.setCell ⟨g, j, none⟩ u) e size v n (xs.set j u) := by
  refine ⟨by rw [List.length_set]; exact h.1, ?_⟩
  rcases h.2 with ⟨rfl, _⟩ | ⟨g', cap, cur, rfl, hgg, hnc, hcm, hcs, ht⟩
  · cases hg
  · cases hg
    refine .inr ⟨g', cap, cur.setIfInBounds j u, rfl, set_block hgg j u, hnc, hcm, by simpa using hcs, ?_⟩
    rw [← ht, Array.toList_setIfInBounds, List.take_set]
end Go.Sat

namespace Go.Proofs.Ytdlbamhabenhgaa
open Go.RowKit Go.Sat Go.Maps

theorem cells_set (L : List RFile) (i : Nat) (x x' : RFile) (h : L[i]? = some x) (j : Nat) (hj : j < 3) (u : Value) (hc : x'.cells = x.cells.set j u) : (L.flatMap RFile.cells).set (i * 3 + j) u = (L.set i x').flatMap RFile.cells := by
  induction L generalizing i with
  | nil => simp at h
  | cons y r ih =>
    have hy : y.cells.length = 3 := rfl
    rw [List.flatMap_cons]
    cases i with
    | zero =>
      simp at h
      subst h
      rw [List.set_cons_zero, List.flatMap_cons, hc, List.set_append_left _ _ (by omega), Nat.zero_mul, Nat.zero_add]
    | succ i =>
      rw [List.set_cons_succ, List.flatMap_cons, List.set_append_right _ _ (by omega), ← ih i (by simpa using h)]
      congr 2
      omega

/-- Where the document's disk lies, whatever it says. -/
structure RefCore (w : World) (r : Nat) (v : Value) (L : List RFile) (own : Nat → Prop) (room : Nat) (fuse : Option Nat) : Prop where
  cells : w.heap[r]? = some (.cells #[.int .i64 (room : Int), v, .int .i64 (leftOf fuse)] 94 (0, 0))
  row : OwnR w 96 3 v L.length (L.flatMap RFile.cells)
  data : ∀ x ∈ L, OwnB w 5 x.b x.f.data
  or : own r
  ov : ∀ k, v.ownBlock = some k → own k ∧ k ≠ r
  ob : ∀ x ∈ L, ∀ k, x.b.ownBlock = some k → own k ∧ k ≠ r ∧ v.ownBlock ≠ some k
  olt : ∀ k, own k → k < w.heap.size

section
variable {w : World} {r : Nat} {v : Value} {L : List RFile} {own : Nat → Prop} {D : DiskM} {room : Nat} {fuse : Option Nat}

theorem RefIn.core (h : RefIn w r v L own D) : RefCore w r v L own D.room D.fuse := ⟨h.cells, h.row, h.data, h.or, h.ov, h.ob, h.olt⟩
theorem RefCore.full (h : RefCore w r v L own room fuse) (hr : D.room = room) (hf : D.fuse = fuse) (hL : D.files = L.map RFile.key) (ok : D.OK) : RefIn w r v L own D := by
  subst hr
  subst hf
  exact ⟨h.cells, h.row, hL, h.data, h.or, h.ov, h.ob, h.olt, ok⟩

theorem RefCore.at (h : RefCore w r v L own room fuse) {g : Nat} (hg : v.ownBlock = some g) {i : Nat} {x : RFile} (hx : L[i]? = some x) : w.cell? ⟨g, i * 3, none⟩ = some (encStr x.n) ∧ w.cell? ⟨g, i * 3 + 1, none⟩ = some x.b ∧ w.cell? ⟨g, i * 3 + 2, none⟩ = some (.int .i64 (x.f.lasts : Int)) := by
  have hc := h.row.cells hg
  refine ⟨?_, ?_, ?_⟩
  · have := hc (i * 3 + 0) (encStr x.n) ((cells_at L i x hx 0 (by omega)).trans rfl)
    rwa [add_zero] at this
  · have := hc (i * 3 + 1) x.b ((cells_at L i x hx 1 (by omega)).trans rfl)
    rwa [add_zero] at this
  · have := hc (i * 3 + 2) _ ((cells_at L i x hx 2 (by omega)).trans rfl)
    rwa [add_zero] at this

theorem mem_set {α : Type} {L : List α} {i : Nat} {x' y : α} (h : y ∈ L.set i x') : y ∈ L ∨ y = x' := List.mem_or_eq_of_mem_set h

/-- A cell of a file is written. -/
theorem RefCore.store (h : RefCore w r v L own room fuse) {g : Nat} (hg : v.ownBlock = some g) {i : Nat} {x : RFile} (hx : L[i]? = some x) (j : Nat) (hj : j < 3) (u : Value) (x' : RFile) (hc : x'.cells = x.cells.set j u)
    {own' : Nat → Prop} (hown : ∀ k, own k → own' k) (hd : OwnB w 5 x'.b x'.f.data) (hb : ∀ k, x'.b.ownBlock = some k → own' k ∧ k ≠ r ∧ k ≠ g) (holt : ∀ k, own' k → k < w.heap.size) :
    RefCore (w.setCell ⟨g, i * 3 + j, none⟩ u) r v (L.set i x') own' room fuse where
  cells := (set_other u (h.ov g hg).2.symm).trans h.cells
  row := by
    rw [List.length_set, ← cells_set L i x x' hx j hj u hc]
    exact h.row.set hg _ _
  data := fun y hy => by
    rcases mem_set hy with hy | rfl
    · exact OwnR.keep (h.data y hy) fun k hk => set_other u (fun e => (h.ob y hy k hk).2.2 (by rw [hg]; exact congrArg some e.symm))
    · exact OwnR.keep hd fun k hk => set_other u (hb k hk).2.2
  or := hown r h.or
  ov := fun k hk => ⟨hown k (h.ov k hk).1, (h.ov k hk).2⟩
  ob := fun y hy k hk => by
    rcases mem_set hy with hy | rfl
    · exact ⟨hown k (h.ob y hy k hk).1, (h.ob y hy k hk).2⟩
    · exact ⟨(hb k hk).1, (hb k hk).2.1, fun e => (hb k hk).2.2 (Option.some.inj (e.symm.trans hg))⟩
  olt := fun k hk => by
    have := holt k hk
    simpa [World.setCell] using this

theorem RefCore.free (h : RefCore w r v L own room fuse) {g : Nat} (hg : v.ownBlock = some g) (j : Nat) : w.frozen? ⟨g, j, none⟩ = false := by
  rcases h.row.2 with ⟨rfl, _⟩ | ⟨g', cap, cur, rfl, hgg, _⟩
  · cases hg
  · cases hg
    exact frozen_of hgg j

/-- What a thing that is done with the document's disk leaves. -/
def RStep (w : World) (r : Nat) (own : Nat → Prop) (R : DiskM × Nat) (e : Ending) (w' : World) : Prop :=
  e = .returned (.int .i64 (R.2 : Int)) ∧ ∃ own', RefAt w' r R.1 own' ∧ Chg own w w' ∧ ∀ k, own' k → own k ∨ w.heap.size ≤ k

theorem RefIn.below (h : RefIn w r v L own D) {w' : World} (hb : Below w.heap.size w w') : RefIn w' r v L own D := h.keep hb.size fun k hk => hb.block k (h.olt k hk)

theorem chg_below {w' w'' : World} (hb : Below w.heap.size w w') (hc : Chg own w' w'') : Chg own w w'' :=
  ((Chg.of_below hb).mono fun _ _ h => h.elim).trans hc fun _ _ h => h

/-- Nothing was done. -/
theorem rstep_same (h : RefIn w r v L own D) {w' : World} (hb : Below w.heap.size w w') (k : Nat) : RStep w r own (D, k) (.returned (.int .i64 (k : Int))) w' :=
  ⟨rfl, own, ⟨v, L, h.below hb⟩, (Chg.of_below hb).mono fun _ _ h => h.elim, fun _ h => .inl h⟩

theorem below_names (w : World) (o : Obj) (q : Nat) : Below w.heap.size w ((w.alloc o).drewN q) := ((Below.refl _ _).alloc (Nat.le_refl _) o).trans ⟨rfl, rfl, rfl, Nat.le_refl _, fun _ _ => rfl⟩

theorem may_fuse {ns : List Bs} (h : D.may ns = 0) : D.fuse ≠ some 0 := fun e => by
  unfold DiskM.may at h
  rw [if_pos e] at h
  cases h

/-- The fuse burns on behind what was done. -/
theorem rstep_did {D1 : DiskM} {v' : Value} {L' : List RFile} {own' : Nat → Prop} {w1 w2 : World} {e : Ending} (hc : Chg own w w1) (hx : ∀ k, own' k → own k ∨ w.heap.size ≤ k) (_ho : w.heap.size ≤ w1.heap.size)
    (h : e = .returned (.int .i64 0) ∧ RefIn w2 r v' L' own' D1.done ∧ Chg own' w1 w2) : RStep w r own (D1.done, 0) e w2 := by
  obtain ⟨rfl, h2, hc2⟩ := h
  refine ⟨rfl, own', ⟨v', L', h2⟩, hc.trans hc2 fun k hk hT => ?_, hx⟩
  rcases hx k hT with h | h
  · exact h
  · omega

theorem map_set_key (L : List RFile) (i : Nat) (x : RFile) : (L.set i x).map RFile.key = (L.map RFile.key).set i x.key := List.map_set ..

theorem RefIn.put (h : RefIn w r v L own D) {n : Bs} {f : FileM} (hg : Sat.get n D.files = some f) (x' : RFile) (hn : x'.n = n) : put n x'.f D.files = (L.set (spotN n (L.map RFile.n)) x').map RFile.key := by
  have h1 : isAt n (D.files.map (·.1)) = true := by rw [(spot_get n h.ok.srt).1, hg]; rfl
  rw [put_at n x'.f h.ok.srt h1, map_set_key, ← h.files, h.names]
  unfold RFile.key
  rw [hn]

set_option maxRecDepth 100000 in
set_option maxHeartbeats 2000000 in
theorem rsync_calls (h : RefIn w r v L own D) (s : ByteArray) (hs : s.size ≤ 9223372036854775807) :
    Calls Try.prog 64 #[.pointer (some ⟨r, 0, none⟩), .string s] w (RStep w r own (D.sync [nm s])) := by
  have h1 : RefIn (w.alloc (.cells #[.string s] 9)) r v L own D := h.below ((Below.refl _ _).alloc (Nat.le_refl _) _)
  have hmay := rmay_calls h1 (some ⟨w.heap.size, 0, none⟩) [s] 1 (strs_one w s) (by simp) (by simpa using hs)
  simp only [List.map_cons, List.map_nil] at hmay
  unfold DiskM.sync
  rw [each_one]
  by_cases hm : D.may [nm s] = 0
  · have hsp := spot_calls h1 s
    rw [h.is] at hsp
    rw [hm] at hmay
    cases hg : Sat.get (nm s) D.files with
    | none =>
      rw [hg] at hsp
      have hR : DiskM.each1 DiskM.gSync D (nm s) = (D, 7) := by unfold DiskM.each1; rw [if_neg (by rw [hm]; simp), hg]
      rw [hR]
      have Hf := Lib.hid (fun q => rstep_same h (below_names w (.cells #[.string s] 9) q) 7)
      have Hmay := Lib.hid hmay
      have Hsp := Lib.hid hsp
      clear h h1 hmay hsp hm hR hg
      go_enter Try.func64, Try.ntmps64
      go_wp2_with fail
      refine Hmay.out.mono ?_
      rintro e w2 ⟨rfl, rfl⟩
      go_wp2_with fail
      refine Hsp.out.mono ?_
      rintro e w3 ⟨rfl, q, rfl⟩
      go_wp2_with fail
      go_ret
      exact Hf.out q
    | some f =>
      rw [hg] at hsp
      obtain ⟨x, hx, hxn, rfl⟩ := h.hit hg
      have hlm := h.len_le hx
      have hput := h.put hg ⟨x.n, x.b, ⟨x.f.data, x.f.data.length⟩⟩ hxn
      have hxm := List.mem_of_getElem? hx
      have hN : spotN (nm s) (L.map RFile.n) < L.length := (List.getElem?_eq_some_iff.1 hx).1
      have hR : DiskM.each1 DiskM.gSync D (nm s) = (DiskM.done { D with files := DiskM.gSync (nm s) x.f D.files }, 0) := by unfold DiskM.each1; rw [if_neg (by rw [hm]; simp), hg]
      rw [hR]
      have hok := ok_sync h.ok hg
      generalize spotN (nm s) (L.map RFile.n) = i at *
      have hFin : ∀ W g, Below w.heap.size w W → v.ownBlock = some g → RefIn (W.setCell ⟨g, i * 3 + 2, none⟩ (.int .i64 (x.f.data.length : Int))) r v (L.set i ⟨x.n, x.b, ⟨x.f.data, x.f.data.length⟩⟩) own { D with files := DiskM.gSync (nm s) x.f D.files } := fun W g hbW hgv => by
        have hW := (h.below hbW).core
        exact (hW.store hgv hx 2 (by omega) _ ⟨x.n, x.b, ⟨x.f.data, x.f.data.length⟩⟩ rfl (fun _ h => h) (hW.data x hxm) (fun k hk => ⟨(h.ob x hxm k hk).1, (h.ob x hxm k hk).2.1, fun e => (h.ob x hxm k hk).2.2 (by rw [hgv, e])⟩) hW.olt).full rfl rfl hput hok
      have hCh : ∀ W g, Below w.heap.size w W → v.ownBlock = some g → Chg own w (W.setCell ⟨g, i * 3 + 2, none⟩ (.int .i64 (x.f.data.length : Int))) := fun W g hbW hgv => chg_below hbW (chg_own (h.ov g hgv).1)
      rcases h.at with h0 | ⟨g, c0, rfl, hlc, -⟩
      · rw [h0] at hN
        simp at hN
      have hDid := fun W hbW => rdid_calls (hFin W g hbW rfl) (may_fuse hm)
      have hCh' := fun W hbW => hCh W g hbW rfl
      have hcell : ∀ W, Below w.heap.size w W → (W.cell? ⟨r, 1, none⟩ = some (.slice (some ⟨g, 0, none⟩) L.length c0) ∧ W.cell? ⟨g, i * 3 + 1, none⟩ = some x.b ∧ W.cell? ⟨g, i * 3 + 2, none⟩ = some (.int .i64 (x.f.lasts : Int)) ∧ W.frozen? ⟨g, i * 3 + 2, none⟩ = false) := fun W hbW => by
        have hW := h.below hbW
        exact ⟨hW.c1, (hW.core.at rfl hx).2.1, (hW.core.at rfl hx).2.2, hW.core.free rfl _⟩
      obtain ⟨pb, cb, eb⟩ := HasB.slice (h.data x hxm).has
      rw [eb] at hcell
      generalize x.f.data.length = m at *
      have HDid := Lib.hid (And.intro hDid hCh')
      have Hcell := Lib.hid hcell
      have Hmay := Lib.hid hmay
      have Hsp := Lib.hid hsp
      clear h h1 hmay hsp hm hR hg hput hok hFin hCh hDid hCh' hcell hx hxm eb
      go_enter Try.func64, Try.ntmps64
      go_wp2_with fail
      refine Hmay.out.mono ?_
      rintro e w2 ⟨rfl, rfl⟩
      go_wp2_with fail
      refine Hsp.out.mono ?_
      rintro e w3 ⟨rfl, q, rfl⟩
      have HbW := Lib.hid (below_names w (.cells #[.string s] 9) q)
      generalize (w.alloc (.cells #[.string s] 9)).drewN q = W at *
      obtain ⟨hc1, hc2, hc3, hfz⟩ := Hcell.out W HbW.out
      go_wp2_with fail
      go_still_tail 14, (by kernel_rfl)
      change wpList _ _ _ _ _ W.drew
      have hbD : Below w.heap.size w W.drew := HbW.out.trans ⟨rfl, rfl, rfl, Nat.le_refl _, fun _ _ => rfl⟩
      obtain ⟨hc1, hc2, hc3, hfz⟩ := Hcell.out _ hbD
      have Hdid := Lib.hid (HDid.out.1 _ hbD)
      have Hch := Lib.hid (HDid.out.2 _ hbD)
      clear Hcell HDid hbD
      generalize W.drew = Wd at *
      go_wp2_with fail
      refine Hdid.out.mono ?_
      intro e w4 h4
      have hE := rstep_did Hch.out (fun _ h => .inl h) Hch.out.size h4
      obtain ⟨rfl, -⟩ := h4
      have HE := Lib.hid hE
      clear hE
      go_wp2_with fail
      go_ret
      exact HE.out
  · have hR : DiskM.each1 DiskM.gSync D (nm s) = (D, D.may [nm s]) := by unfold DiskM.each1; rw [if_pos hm]
    rw [hR]
    have Hf := Lib.hid (rstep_same h ((Below.refl _ _).alloc (Nat.le_refl _) (.cells #[.string s] 9)) (D.may [nm s]))
    have Hmay := Lib.hid hmay
    generalize D.may [nm s] = m at *
    have hne : ((m : Int) != 0) = true := by simp; omega
    clear h h1 hmay hR
    go_enter Try.func64, Try.ntmps64
    go_wp2_with fail
    refine Hmay.out.mono ?_
    rintro e w2 ⟨rfl, rfl⟩
    go_wp2_with fail
    go_ret
    exact Hf.out
end
end Go.Proofs.Ytdlbamhabenhgaa

namespace Go.Sat
open Go Go.RowKit
/-- Two may come up. -/
theorem ord_two {P : Program} {l : List Oper} {Q : Exit → Act → World → Prop} {md : Region.Mode} {S : World → Prop} {fuel : Nat} {listed : Array Bool} {a : Act} {w : World} (i j : Nat) {oi oj : Oper} {ri rj : List Oper} (hdi : l.drop i = oi :: ri) (hdj : l.drop j = oj :: rj) (hr : Region.ready md l.toArray listed = [i, j])
    (hwi : Region.wanted oi (yielded l.toArray a.tmps) = true) (hwj : Region.wanted oj (yielded l.toArray a.tmps) = true)
    (hi : ∀ K : Act → World → Prop, Shut (∀ a w, S w → (S w → wpAnyH P md l.toArray Q S fuel (listed.setIfInBounds i true) a w) → K a w) → Oper.wp P oi a w K Q)
    (hj : ∀ K : Act → World → Prop, Shut (∀ a w, S w → (S w → wpAnyH P md l.toArray Q S fuel (listed.setIfInBounds j true) a w) → K a w) → Oper.wp P oj a w K Q) : wpAnyH P md l.toArray Q S (fuel + 1) listed a w :=
  wpAnyH_ready hr (by simp) (AllReadyH.cons (ord_get hdi) (fun K hK => by rw [if_pos hwi]; exact hi K hK) (AllReadyH.cons (ord_get hdj) (fun K hK => by rw [if_pos hwj]; exact hj K hK) AllReadyH.nil))
end Go.Sat

namespace Go.Proofs.Ytdlbamhabenhgaa
open Go.RowKit Go.Sat Go.Maps

theorem ok_cut {D : DiskM} (h : D.OK) {n : Bs} {f : FileM} (hg : Sat.get n D.files = some f) (k : Nat) : DiskM.OK { D with files := put n ⟨f.data.take k, min f.lasts k⟩ D.files } where
  srt := srt_put h.srt
  room := h.room
  used := by
    show sumBy DiskM.size (put n _ D.files) ≤ D.room
    rw [sum_put]
    have h1 : D.used = DiskM.size f + sumBy DiskM.size (del n D.files) := sum_del h.srt hg
    have := h.used
    simp only [DiskM.size, List.length_take] at h1 ⊢
    omega
  count := by
    show (put n _ D.files).length ≤ 4096
    rw [len_put]
    have := len_del h.srt hg
    have := h.count
    omega
  names p hp := by
    rcases mem_put.1 hp with rfl | ⟨hp, _⟩
    · exact (h.names (n, f) (get_mem hg) : okN n = true)
    · exact h.names p hp
  lasts p hp := by
    rcases mem_put.1 hp with rfl | ⟨hp, _⟩
    · have h1 := h.lasts (n, f) (get_mem hg)
      show min f.lasts k ≤ (f.data.take k).length
      rw [List.length_take]
      have h1 : f.lasts ≤ f.data.length := h1
      omega
    · exact h.lasts p hp
  fuse := h.fuse

section
variable {w : World} {r : Nat} {v : Value} {L : List RFile} {own : Nat → Prop} {D : DiskM} {room : Nat} {fuse : Option Nat}

theorem RefCore.keep {w' : World} (h : RefCore w r v L own room fuse) (hs : w.heap.size ≤ w'.heap.size) (hb : ∀ k, own k → w'.heap[k]? = w.heap[k]?) : RefCore w' r v L own room fuse where
  cells := (hb r h.or).trans h.cells
  row := h.row.keep fun k hk => hb k (h.ov k hk).1
  data := fun x hx => OwnR.keep (h.data x hx) fun k hk => hb k (h.ob x hx k hk).1
  or := h.or
  ov := h.ov
  ob := h.ob
  olt := fun k hk => Nat.lt_of_lt_of_le (h.olt k hk) hs

theorem RefCore.c1 (h : RefCore w r v L own room fuse) : w.cell? ⟨r, 1, none⟩ = some v := cell_of h.cells rfl

set_option maxRecDepth 100000 in
set_option maxHeartbeats 4000000 in
theorem rtrunc_calls (h : RefIn w r v L own D) (s : ByteArray) (hs : s.size ≤ 9223372036854775807) (z : Int) (hz : -9223372036854775808 ≤ z) (hz' : z ≤ 9223372036854775807) :
    Calls Try.prog 65 #[.pointer (some ⟨r, 0, none⟩), .string s, .int .i64 z] w (RStep w r own (D.truncate (nm s) z)) := by
  have h1 : RefIn (w.alloc (.cells #[.string s] 9)) r v L own D := h.below ((Below.refl _ _).alloc (Nat.le_refl _) _)
  have hmay := rmay_calls h1 (some ⟨w.heap.size, 0, none⟩) [s] 1 (strs_one w s) (by simp) (by simpa using hs)
  simp only [List.map_cons, List.map_nil] at hmay
  by_cases hm : D.may [nm s] = 0
  · have hsp := spot_calls h1 s
    rw [h.is] at hsp
    rw [hm] at hmay
    cases hg : Sat.get (nm s) D.files with
    | none =>
      rw [hg] at hsp
      have hR : D.truncate (nm s) z = (D, 7) := by unfold DiskM.truncate; rw [if_neg (by rw [hm]; simp), hg]
      rw [hR]
      have Hf := Lib.hid (fun q => rstep_same h (below_names w (.cells #[.string s] 9) q) 7)
      have Hmay := Lib.hid hmay
      have Hsp := Lib.hid hsp
      clear h h1 hmay hsp hm hR hg
      go_enter Try.func65, Try.ntmps65
      go_wp2_with fail
      refine Hmay.out.mono ?_
      rintro e w2 ⟨rfl, rfl⟩
      go_wp2_with fail
      refine Hsp.out.mono ?_
      rintro e w3 ⟨rfl, q, rfl⟩
      go_wp2_with fail
      go_ret
      exact Hf.out q
    | some f =>
      rw [hg] at hsp
      obtain ⟨x, hx, hxn, rfl⟩ := h.hit hg
      have hlm := h.len_le hx
      have hxm := List.mem_of_getElem? hx
      have hN : spotN (nm s) (L.map RFile.n) < L.length := (List.getElem?_eq_some_iff.1 hx).1
      rcases h.at with h0 | ⟨g, c0, hgv, hlc, -⟩
      · rw [h0] at hN
        simp at hN
      have hgo : v.ownBlock = some g := by rw [hgv]; rfl
      by_cases hzz : 0 ≤ z ∧ z ≤ (x.f.data.length : Int)
      · obtain ⟨y, rfl⟩ : ∃ y : Nat, z = (y : Int) := ⟨z.toNat, by omega⟩
        have hyl : y ≤ x.f.data.length := by omega
        have hR : D.truncate (nm s) (y : Int) = (DiskM.done { D with files := put (nm s) ⟨x.f.data.take y, min x.f.lasts y⟩ D.files }, 0) := by
          unfold DiskM.truncate
          rw [if_neg (by rw [hm]; simp), hg]
          show (if (y : Int) < 0 ∨ (x.f.data.length : Int) < y then _ else _) = _
          rw [if_neg (by omega), Int.toNat_natCast]
        rw [hR]
        have hput : ∀ v', put (nm s) ⟨x.f.data.take y, min x.f.lasts y⟩ D.files = (L.set (spotN (nm s) (L.map RFile.n)) ⟨x.n, v', ⟨x.f.data.take y, min x.f.lasts y⟩⟩).map RFile.key := fun v' => h.put hg ⟨x.n, v', ⟨x.f.data.take y, min x.f.lasts y⟩⟩ hxn
        have hok := ok_cut h.ok hg y
        have hfz := may_fuse hm
        generalize spotN (nm s) (L.map RFile.n) = i at *
        have Hcells := Lib.hid (show ∀ W, Below w.heap.size w W → W.cell? ⟨r, 1, none⟩ = some (.slice (some ⟨g, 0, none⟩) L.length c0) ∧ W.cell? ⟨g, i * 3 + 1, none⟩ = some x.b ∧ W.frozen? ⟨g, i * 3 + 1, none⟩ = false from fun W hb => by
          have hW := h.below hb
          refine ⟨hW.c1.trans (by rw [hgv]), (hW.core.at hgo hx).2.1, hW.core.free hgo _⟩)
        obtain ⟨pb, cb, eb, hmcb⟩ := own_slice (h.data x hxm)
        -- behind both stores
        have Hfin := Lib.hid (show ∀ W v' , Below w.heap.size w W → OwnB W 5 v' (x.f.data.take y) → (∀ k, v'.ownBlock = some k → w.heap.size ≤ k ∧ k < W.heap.size) →
            RefCore (W.setCell ⟨g, i * 3 + 1, none⟩ v') r v (L.set i ⟨x.n, v', ⟨x.f.data.take y, x.f.lasts⟩⟩) (fun k => own k ∨ v'.ownBlock = some k) D.room D.fuse from fun W v' hb hv hn =>
          (h.below hb).core.store hgo hx 1 (by omega) v' ⟨x.n, v', ⟨x.f.data.take y, x.f.lasts⟩⟩ rfl (fun _ h => .inl h) hv (fun k hk => ⟨.inr hk, fun e => by have := h.olt r h.or; have := (hn k hk).1; omega, fun e => by have := h.olt g (h.ov g hgo).1; have := (hn k hk).1; omega⟩)
            (fun k hk => by
              rcases hk with hk | hk
              · exact Nat.lt_of_lt_of_le (h.olt k hk) hb.size
              · exact (hn k hk).2))
        have Hfin2 := Lib.hid (show ∀ W v', RefCore W r v (L.set i ⟨x.n, v', ⟨x.f.data.take y, x.f.lasts⟩⟩) (fun k => own k ∨ v'.ownBlock = some k) D.room D.fuse → OwnB W 5 v' (x.f.data.take y) →
            RefIn (W.setCell ⟨g, i * 3 + 2, none⟩ (.int .i64 ((min x.f.lasts y : Nat) : Int))) r v (L.set i ⟨x.n, v', ⟨x.f.data.take y, min x.f.lasts y⟩⟩) (fun k => own k ∨ v'.ownBlock = some k) { D with files := put (nm s) ⟨x.f.data.take y, min x.f.lasts y⟩ D.files } from fun W v' hc hv => by
          have hi : (L.set i ⟨x.n, v', ⟨x.f.data.take y, x.f.lasts⟩⟩)[i]? = some ⟨x.n, v', ⟨x.f.data.take y, x.f.lasts⟩⟩ := by rw [List.getElem?_set_self (by omega)]
          have hm2 := List.mem_of_getElem? hi
          have h2 := hc.store hgo hi 2 (by omega) (.int .i64 ((min x.f.lasts y : Nat) : Int)) ⟨x.n, v', ⟨x.f.data.take y, min x.f.lasts y⟩⟩ rfl (fun _ h => h) hv (fun k hk => ⟨.inr hk, (hc.ob _ hm2 k hk).2.1, fun e => (hc.ob _ hm2 k hk).2.2 (by rw [hgo, e])⟩) hc.olt
          rw [List.set_set] at h2
          exact h2.full rfl rfl (hput v') hok)
        have Hown := Lib.hid (show own r ∧ own g ∧ r ≠ g ∧ g < w.heap.size from ⟨h.or, (h.ov g hgo).1, (h.ov g hgo).2.symm, h.olt g (h.ov g hgo).1⟩)
        have Hd := Lib.hid (show ∀ W, Below w.heap.size w W → HasB W (.slice pb y cb) (x.f.data.take y) from fun W hb => HasB.cut (by rw [← eb]; exact ((h.below hb).data x hxm).has) hyl cb)
        have Hlen := Lib.hid (show (x.f.data.take y).length = y from by rw [List.length_take]; omega)
        have Hfz := Lib.hid hfz
        rw [eb] at Hcells
        obtain ⟨i0, hi, hz0, hz1, hz2⟩ := info_parts (show (Try.prog.info? 5).map (fun i => (i.zero, i.size, i.bytes)) = some (some (.int .u8 0), 1, 1) by kernel_rfl)
        have hcb : y ≤ cb := Nat.le_trans hyl hmcb
        have hsl : ∀ W, (Instr.slice 23 (.slice pb x.f.data.length cb) none (some (.int .i64 (y : Int))) none).run Try.prog W = .ok (.slice pb y cb) W := fun W => run_upto W Try.underlying23 hi pb _ cb y hcb
        have hmin : min (x.f.lasts : Int) (y : Int) = ((min x.f.lasts y : Nat) : Int) := by omega
        generalize hml : x.f.data.length = m at *
        generalize hla : x.f.lasts = la at *
        have Hmay := Lib.hid hmay
        have Hsp := Lib.hid hsp
        clear h h1 hmay hsp hm hR hg hput hok hx hxm eb hgo hml hla hlc hmcb
        subst hgv
        go_enter Try.func65, Try.ntmps65
        go_wp2_with fail
        refine Hmay.out.mono ?_
        rintro e w2 ⟨rfl, rfl⟩
        go_wp2_with fail
        refine Hsp.out.mono ?_
        rintro e w3 ⟨rfl, q, rfl⟩
        have HbW := Lib.hid (below_names w (.cells #[.string s] 9) q)
        generalize (w.alloc (.cells #[.string s] 9)).drewN q = W at *
        obtain ⟨hc1, hc2, hfz1⟩ := Hcells.out W HbW.out
        go_wp2_with fail
        have X0 := Lib.hid (show Below w.heap.size w W.drew from HbW.out.trans ⟨rfl, rfl, rfl, Nat.le_refl _, fun _ _ => rfl⟩)
        clear hc1 hc2 hfz1
        have hS := (Hcells.out _ X0.out).1
        refine ord_start (fun W' : World => W'.cell? ⟨r, 1, none⟩ = some (.slice (some ⟨g, 0, none⟩) L.length c0)) (n := 20) (by kernel_rfl) rfl hS (fun hHeld => ?_)
        clear hS
        generalize W.drew = Wd at *
        refine ord_take 0 (v := ?v0x0) rfl (by kernel_rfl) (by kernel_rfl) (by kernel_rfl) (fun _ _ _ h => h) (by rfl) (by assumption) ?y0x0 ?_
        case y0x0 => (intro w hSw; (try dsimp only at hSw); go_simp; try with_reducible rfl)
        simp only [Act.put, List.setIfInBounds_toArray, List.set_cons_zero, List.set_cons_succ]
        refine ord_take 1 (v := ?v0x1) rfl (by kernel_rfl) (by kernel_rfl) (by kernel_rfl) (fun _ _ _ h => h) (by rfl) (by assumption) ?y0x1 ?_
        case y0x1 => (intro w hSw; (try dsimp only at hSw); go_simp; try with_reducible rfl)
        simp only [Act.put, List.setIfInBounds_toArray, List.set_cons_zero, List.set_cons_succ]
        refine ord_take 2 (v := ?v0x2) rfl (by kernel_rfl) (by kernel_rfl) (by kernel_rfl) (fun _ _ _ h => h) (by rfl) (by assumption) ?y0x2 ?_
        case y0x2 => (intro w hSw; (try dsimp only at hSw); go_simp; try with_reducible rfl)
        simp only [Act.put, List.setIfInBounds_toArray, List.set_cons_zero, List.set_cons_succ]
        refine ord_take 3 (v := ?v0x3) rfl (by kernel_rfl) (by kernel_rfl) (by kernel_rfl) (fun _ _ _ h => h) (by rfl) (by assumption) ?y0x3 ?_
        case y0x3 => (intro w hSw; (try dsimp only at hSw); go_simp; try with_reducible rfl)
        simp only [Act.put, List.setIfInBounds_toArray, List.set_cons_zero, List.set_cons_succ]
        refine ord_take 4 (v := ?v0x4) rfl (by kernel_rfl) (by kernel_rfl) (by kernel_rfl) (fun _ _ _ h => h) (by rfl) (by assumption) ?y0x4 ?_
        case y0x4 => (intro w hSw; (try dsimp only at hSw); go_simp; try with_reducible rfl)
        simp only [Act.put, List.setIfInBounds_toArray, List.set_cons_zero, List.set_cons_succ]
        refine ord_take 6 (v := ?v0x6) rfl (by kernel_rfl) (by kernel_rfl) (by kernel_rfl) (fun _ _ _ h => h) (by rfl) (by assumption) ?y0x6 ?_
        case y0x6 => (intro w hSw; (try dsimp only at hSw); go_simp; try with_reducible rfl)
        simp only [Act.put, List.setIfInBounds_toArray, List.set_cons_zero, List.set_cons_succ]
        refine ord_take 7 (v := ?v0x7) rfl (by kernel_rfl) (by kernel_rfl) (by kernel_rfl) (fun _ _ _ h => h) (by rfl) (by assumption) ?y0x7 ?_
        case y0x7 => (intro w hSw; (try dsimp only at hSw); go_simp; try with_reducible rfl)
        simp only [Act.put, List.setIfInBounds_toArray, List.set_cons_zero, List.set_cons_succ]
        refine ord_take 8 (v := ?v0x8) rfl (by kernel_rfl) (by kernel_rfl) (by kernel_rfl) (fun _ _ _ h => h) (by rfl) (by assumption) ?y0x8 ?_
        case y0x8 => (intro w hSw; (try dsimp only at hSw); go_simp; try with_reducible rfl)
        simp only [Act.put, List.setIfInBounds_toArray, List.set_cons_zero, List.set_cons_succ]
        refine ord_take 9 (v := ?v0x9) rfl (by kernel_rfl) (by kernel_rfl) (by kernel_rfl) (fun _ _ _ h => h) (by rfl) (by assumption) ?y0x9 ?_
        case y0x9 => (intro w hSw; (try dsimp only at hSw); go_simp; try with_reducible rfl)
        simp only [Act.put, List.setIfInBounds_toArray, List.set_cons_zero, List.set_cons_succ]
        refine ord_take 10 (v := ?v0x10) rfl (by kernel_rfl) (by kernel_rfl) (by kernel_rfl) (fun _ _ _ h => h) (by rfl) (by assumption) ?y0x10 ?_
        case y0x10 => (intro w hSw; (try dsimp only at hSw); go_simp; try with_reducible rfl)
        simp only [Act.put, List.setIfInBounds_toArray, List.set_cons_zero, List.set_cons_succ]
        refine ord_take 11 (v := ?v0x11) rfl (by kernel_rfl) (by kernel_rfl) (by kernel_rfl) (fun _ _ _ h => h) (by rfl) (by assumption) ?y0x11 ?_
        case y0x11 => (intro w hSw; (try dsimp only at hSw); go_simp; try with_reducible rfl)
        simp only [Act.put, List.setIfInBounds_toArray, List.set_cons_zero, List.set_cons_succ]
        refine ord_take 12 (v := ?v0x12) rfl (by kernel_rfl) (by kernel_rfl) (by kernel_rfl) (fun _ _ _ h => h) (by rfl) (by assumption) ?y0x12 ?_
        case y0x12 => (intro w hSw; (try dsimp only at hSw); go_simp; try with_reducible rfl)
        simp only [Act.put, List.setIfInBounds_toArray, List.set_cons_zero, List.set_cons_succ]
        refine ord_take 14 (v := ?v0x14) rfl (by kernel_rfl) (by kernel_rfl) (by kernel_rfl) (fun _ _ _ h => h) (by rfl) (by assumption) ?y0x14 ?_
        case y0x14 => (intro w hSw; (try dsimp only at hSw); go_simp; try with_reducible rfl)
        simp only [Act.put, List.setIfInBounds_toArray, List.set_cons_zero, List.set_cons_succ]
        refine ord_two 5 13 rfl rfl (by kernel_rfl) (by rfl) (by rfl) (fun K hK => ?_) (fun K hK => ?_)
        · go_wp2_with fail
          have X1 := Lib.hid (X0.out.alloc X0.out.size (.cells #[] 5))
          refine hK.out _ _ ((Hcells.out _ X1.out).1) (fun hHeld => ?_)
          clear hK
          try simp only [Act.put, List.setIfInBounds_toArray, List.set_cons_zero, List.set_cons_succ]
          refine ord_one 13 rfl (by kernel_rfl) (by rfl) (fun K hK => ?_)
          have hc2 := (Hcells.out _ X1.out).2.1
          go_wp2_with fail
          clear hc2
          refine hK.out _ _ ((Hcells.out _ X1.out).1) (fun hHeld => ?_)
          clear hK
          try simp only [Act.put, List.setIfInBounds_toArray, List.set_cons_zero, List.set_cons_succ]
          refine ord_take 15 (v := ?v1x15) rfl (by kernel_rfl) (by kernel_rfl) (by kernel_rfl) (fun _ _ _ h => h) (by rfl) (by assumption) ?y1x15 ?_
          case y1x15 => (intro w hSw; (try dsimp only at hSw); go_simp; try with_reducible rfl)
          simp only [Act.put, List.setIfInBounds_toArray, List.set_cons_zero, List.set_cons_succ]
          refine ord_one 16 rfl (by kernel_rfl) (by rfl) (fun K hK => ?_)
          have hown0 := own_empty Wd 5
          have hxd := Hd.out _ X1.out
          unfold HasB at hxd
          rw [Hlen.out] at hxd
          refine wp_app (.tmp 45) (.tmp 55) 23 (by rfl) 5 i0 (.int .u8 0) 1 1 Try.underlying23 hi hz0 hz1 hz2 rfl (by decide) (.slice (some ⟨Wd.heap.size, 0, none⟩) 0 0) 0 [] (by rfl) hown0 (.slice pb y cb) y _ (by rfl) hxd (bytesV_one _) (by unfold maxLen; omega) (by omega) ?_
          clear hown0 hxd
          intro v6 w6 hown6 hgrow6 hloc6
          have X6 := Lib.hid (X1.out.grown hgrow6 X1.out.size (fun j e => by have := X0.out.size; simp [Value.ownBlock] at e; omega))
          have hnew6 := own_ge (B := w.heap.size) hloc6 (fun k hk => by have := X0.out.size; simp [Value.ownBlock] at hk; omega) X1.out.size
          rw [Nat.zero_add, List.nil_append] at hown6
          obtain ⟨p6, c6, rfl⟩ := OwnR.shape hown6
          have Hv6 := Lib.hid (show OwnB w6 5 (.slice p6 y c6) (x.f.data.take y) from by unfold OwnB; rw [Hlen.out]; exact hown6)
          have Hnew6 := Lib.hid hnew6
          clear hgrow6 hloc6 hown6 hnew6
          refine hK.out _ _ ((Hcells.out _ X6.out).1) (fun hHeld => ?_)
          clear hK
          try simp only [Act.put, List.setIfInBounds_toArray, List.set_cons_zero, List.set_cons_succ]
          refine ord_take 17 (v := ?v1x17) rfl (by kernel_rfl) (by kernel_rfl) (by kernel_rfl) (fun _ _ _ h => h) (by rfl) (by assumption) ?y1x17 ?_
          case y1x17 => (intro w hSw; (try dsimp only at hSw); go_simp; try with_reducible rfl)
          simp only [Act.put, List.setIfInBounds_toArray, List.set_cons_zero, List.set_cons_succ]
          refine ord_take 18 (v := ?v1x18) rfl (by kernel_rfl) (by kernel_rfl) (by kernel_rfl) (fun _ _ _ h => h) (by rfl) (by assumption) ?y1x18 ?_
          case y1x18 => (intro w hSw; (try dsimp only at hSw); go_simp; try with_reducible rfl)
          simp only [Act.put, List.setIfInBounds_toArray, List.set_cons_zero, List.set_cons_succ]
          refine ord_one 19 rfl (by kernel_rfl) (by rfl) (fun K hK => ?_)
          obtain ⟨hc1, hc2, hfz1⟩ := Hcells.out _ X6.out
          go_wp2_with fail
          have hcs : (w6.setCell ⟨g, i * 3 + 1, none⟩ (.slice p6 y c6)).cell? ⟨r, 1, none⟩ = some (.slice (some ⟨g, 0, none⟩) L.length c0) := (World.cell?_of_block (set_other _ Hown.out.2.2.1)).trans hc1
          clear hc1 hc2 hfz1
          refine hK.out _ _ (hcs) (fun hHeld => ?_)
          clear hK
          try simp only [Act.put, List.setIfInBounds_toArray, List.set_cons_zero, List.set_cons_succ]
          refine wpAnyH_done (by kernel_rfl) ?_ _
          clear hHeld
          have hcore := Hfin.out w6 (.slice p6 y c6) X6.out Hv6.out (fun k hk => ⟨Hnew6.out k hk, OwnR.lt Hv6.out hk⟩)
          have hv7 : OwnB (w6.setCell ⟨g, i * 3 + 1, none⟩ (.slice p6 y c6)) 5 (.slice p6 y c6) (x.f.data.take y) := OwnR.keep Hv6.out fun k hk => set_other _ (fun e => by have h1 : k = g := e; have := Hnew6.out k hk; have := Hown.out.2.2.2; omega)
          have hch := chg_below X6.out (chg_own (own := own) (w := w6) (a := ⟨g, i * 3 + 1, none⟩) (u := .slice p6 y c6) Hown.out.2.1)
          have hge : w.heap.size ≤ (w6.setCell ⟨g, i * 3 + 1, none⟩ (.slice p6 y c6)).heap.size := by have := X6.out.size; simpa [World.setCell] using this
          have H7 := Lib.hid (And.intro hcore (And.intro hv7 (And.intro hch hge)))
          clear hcore hv7 hch hge
          generalize w6.setCell ⟨g, i * 3 + 1, none⟩ (.slice p6 y c6) = Ws at *
          have hi1 : (L.set i ⟨x.n, .slice p6 y c6, ⟨x.f.data.take y, la⟩⟩)[i]? = some ⟨x.n, .slice p6 y c6, ⟨x.f.data.take y, la⟩⟩ := by rw [List.getElem?_set_self (by omega)]
          have Hi1 := Lib.hid hi1
          clear hi1
          obtain ⟨-, -, hc3⟩ := H7.out.1.at rfl Hi1.out
          have hc1 := H7.out.1.c1
          go_wp2_with fail
          go_still_tail 15, (by kernel_rfl)
          clear hc1 hc3
          change wpList _ _ _ _ _ Ws.drew
          have hkd : RefCore Ws.drew r _ _ _ _ _ := H7.out.1.keep (Nat.le_refl _) (fun _ _ => rfl)
          have hvd : OwnB Ws.drew 5 (.slice p6 y c6) (x.f.data.take y) := OwnR.keep H7.out.2.1 (fun _ _ => rfl)
          have hfin := Hfin2.out _ _ hkd hvd
          obtain ⟨-, -, hc3⟩ := hkd.at rfl Hi1.out
          have hfz2 := hkd.free rfl (i * 3 + 2)
          have hchd : Chg own w Ws.drew := H7.out.2.2.1.trans (Chg.drew Ws) (fun _ _ h => h.elim)
          have hch2 : Chg own w (Ws.drew.setCell ⟨g, i * 3 + 2, none⟩ (.int .i64 ((min la y : Nat) : Int))) := hchd.trans (chg_own (own := own) (w := Ws.drew) (a := ⟨g, i * 3 + 2, none⟩) Hown.out.2.1) (fun _ _ h => h)
          have Hdid := Lib.hid (rdid_calls hfin Hfz.out)
          have Hch := Lib.hid (And.intro hch2 (show w.heap.size ≤ (Ws.drew.setCell ⟨g, i * 3 + 2, none⟩ (.int .i64 ((min la y : Nat) : Int))).heap.size from hch2.size))
          clear hkd hvd hfin hchd hch2 H7
          generalize Ws.drew = Wt at *
          go_wp2_with fail
          refine Hdid.out.mono ?_
          intro e w8 h8
          have hE := rstep_did Hch.out.1 (fun k hk => hk.imp id (fun e => Hnew6.out k e)) Hch.out.2 h8
          obtain ⟨rfl, -⟩ := h8
          have HE := Lib.hid hE
          clear hE
          go_wp2_with fail
          go_ret
          exact HE.out
        · have hc2 := (Hcells.out _ X0.out).2.1
          go_wp2_with fail
          clear hc2
          refine hK.out _ _ ((Hcells.out _ X0.out).1) (fun hHeld => ?_)
          clear hK
          try simp only [Act.put, List.setIfInBounds_toArray, List.set_cons_zero, List.set_cons_succ]
          refine ord_take 15 (v := ?v2x15) rfl (by kernel_rfl) (by kernel_rfl) (by kernel_rfl) (fun _ _ _ h => h) (by rfl) (by assumption) ?y2x15 ?_
          case y2x15 => (intro w hSw; (try dsimp only at hSw); go_simp; try with_reducible rfl)
          simp only [Act.put, List.setIfInBounds_toArray, List.set_cons_zero, List.set_cons_succ]
          refine ord_one 5 rfl (by kernel_rfl) (by rfl) (fun K hK => ?_)
          go_wp2_with fail
          have X1 := Lib.hid (X0.out.alloc X0.out.size (.cells #[] 5))
          refine hK.out _ _ ((Hcells.out _ X1.out).1) (fun hHeld => ?_)
          clear hK
          try simp only [Act.put, List.setIfInBounds_toArray, List.set_cons_zero, List.set_cons_succ]
          refine ord_one 16 rfl (by kernel_rfl) (by rfl) (fun K hK => ?_)
          have hown0 := own_empty Wd 5
          have hxd := Hd.out _ X1.out
          unfold HasB at hxd
          rw [Hlen.out] at hxd
          refine wp_app (.tmp 45) (.tmp 55) 23 (by rfl) 5 i0 (.int .u8 0) 1 1 Try.underlying23 hi hz0 hz1 hz2 rfl (by decide) (.slice (some ⟨Wd.heap.size, 0, none⟩) 0 0) 0 [] (by rfl) hown0 (.slice pb y cb) y _ (by rfl) hxd (bytesV_one _) (by unfold maxLen; omega) (by omega) ?_
          clear hown0 hxd
          intro v6 w6 hown6 hgrow6 hloc6
          have X6 := Lib.hid (X1.out.grown hgrow6 X1.out.size (fun j e => by have := X0.out.size; simp [Value.ownBlock] at e; omega))
          have hnew6 := own_ge (B := w.heap.size) hloc6 (fun k hk => by have := X0.out.size; simp [Value.ownBlock] at hk; omega) X1.out.size
          rw [Nat.zero_add, List.nil_append] at hown6
          obtain ⟨p6, c6, rfl⟩ := OwnR.shape hown6
          have Hv6 := Lib.hid (show OwnB w6 5 (.slice p6 y c6) (x.f.data.take y) from by unfold OwnB; rw [Hlen.out]; exact hown6)
          have Hnew6 := Lib.hid hnew6
          clear hgrow6 hloc6 hown6 hnew6
          refine hK.out _ _ ((Hcells.out _ X6.out).1) (fun hHeld => ?_)
          clear hK
          try simp only [Act.put, List.setIfInBounds_toArray, List.set_cons_zero, List.set_cons_succ]
          refine ord_take 17 (v := ?v2x17) rfl (by kernel_rfl) (by kernel_rfl) (by kernel_rfl) (fun _ _ _ h => h) (by rfl) (by assumption) ?y2x17 ?_
          case y2x17 => (intro w hSw; (try dsimp only at hSw); go_simp; try with_reducible rfl)
          simp only [Act.put, List.setIfInBounds_toArray, List.set_cons_zero, List.set_cons_succ]
          refine ord_take 18 (v := ?v2x18) rfl (by kernel_rfl) (by kernel_rfl) (by kernel_rfl) (fun _ _ _ h => h) (by rfl) (by assumption) ?y2x18 ?_
          case y2x18 => (intro w hSw; (try dsimp only at hSw); go_simp; try with_reducible rfl)
          simp only [Act.put, List.setIfInBounds_toArray, List.set_cons_zero, List.set_cons_succ]
          refine ord_one 19 rfl (by kernel_rfl) (by rfl) (fun K hK => ?_)
          obtain ⟨hc1, hc2, hfz1⟩ := Hcells.out _ X6.out
          go_wp2_with fail
          have hcs : (w6.setCell ⟨g, i * 3 + 1, none⟩ (.slice p6 y c6)).cell? ⟨r, 1, none⟩ = some (.slice (some ⟨g, 0, none⟩) L.length c0) := (World.cell?_of_block (set_other _ Hown.out.2.2.1)).trans hc1
          clear hc1 hc2 hfz1
          refine hK.out _ _ (hcs) (fun hHeld => ?_)
          clear hK
          try simp only [Act.put, List.setIfInBounds_toArray, List.set_cons_zero, List.set_cons_succ]
          refine wpAnyH_done (by kernel_rfl) ?_ _
          clear hHeld
          have hcore := Hfin.out w6 (.slice p6 y c6) X6.out Hv6.out (fun k hk => ⟨Hnew6.out k hk, OwnR.lt Hv6.out hk⟩)
          have hv7 : OwnB (w6.setCell ⟨g, i * 3 + 1, none⟩ (.slice p6 y c6)) 5 (.slice p6 y c6) (x.f.data.take y) := OwnR.keep Hv6.out fun k hk => set_other _ (fun e => by have h1 : k = g := e; have := Hnew6.out k hk; have := Hown.out.2.2.2; omega)
          have hch := chg_below X6.out (chg_own (own := own) (w := w6) (a := ⟨g, i * 3 + 1, none⟩) (u := .slice p6 y c6) Hown.out.2.1)
          have hge : w.heap.size ≤ (w6.setCell ⟨g, i * 3 + 1, none⟩ (.slice p6 y c6)).heap.size := by have := X6.out.size; simpa [World.setCell] using this
          have H7 := Lib.hid (And.intro hcore (And.intro hv7 (And.intro hch hge)))
          clear hcore hv7 hch hge
          generalize w6.setCell ⟨g, i * 3 + 1, none⟩ (.slice p6 y c6) = Ws at *
          have hi1 : (L.set i ⟨x.n, .slice p6 y c6, ⟨x.f.data.take y, la⟩⟩)[i]? = some ⟨x.n, .slice p6 y c6, ⟨x.f.data.take y, la⟩⟩ := by rw [List.getElem?_set_self (by omega)]
          have Hi1 := Lib.hid hi1
          clear hi1
          obtain ⟨-, -, hc3⟩ := H7.out.1.at rfl Hi1.out
          have hc1 := H7.out.1.c1
          go_wp2_with fail
          go_still_tail 15, (by kernel_rfl)
          clear hc1 hc3
          change wpList _ _ _ _ _ Ws.drew
          have hkd : RefCore Ws.drew r _ _ _ _ _ := H7.out.1.keep (Nat.le_refl _) (fun _ _ => rfl)
          have hvd : OwnB Ws.drew 5 (.slice p6 y c6) (x.f.data.take y) := OwnR.keep H7.out.2.1 (fun _ _ => rfl)
          have hfin := Hfin2.out _ _ hkd hvd
          obtain ⟨-, -, hc3⟩ := hkd.at rfl Hi1.out
          have hfz2 := hkd.free rfl (i * 3 + 2)
          have hchd : Chg own w Ws.drew := H7.out.2.2.1.trans (Chg.drew Ws) (fun _ _ h => h.elim)
          have hch2 : Chg own w (Ws.drew.setCell ⟨g, i * 3 + 2, none⟩ (.int .i64 ((min la y : Nat) : Int))) := hchd.trans (chg_own (own := own) (w := Ws.drew) (a := ⟨g, i * 3 + 2, none⟩) Hown.out.2.1) (fun _ _ h => h)
          have Hdid := Lib.hid (rdid_calls hfin Hfz.out)
          have Hch := Lib.hid (And.intro hch2 (show w.heap.size ≤ (Ws.drew.setCell ⟨g, i * 3 + 2, none⟩ (.int .i64 ((min la y : Nat) : Int))).heap.size from hch2.size))
          clear hkd hvd hfin hchd hch2 H7
          generalize Ws.drew = Wt at *
          go_wp2_with fail
          refine Hdid.out.mono ?_
          intro e w8 h8
          have hE := rstep_did Hch.out.1 (fun k hk => hk.imp id (fun e => Hnew6.out k e)) Hch.out.2 h8
          obtain ⟨rfl, -⟩ := h8
          have HE := Lib.hid hE
          clear hE
          go_wp2_with fail
          go_ret
          exact HE.out
      · have hR : D.truncate (nm s) z = (D, 1) := by
          unfold DiskM.truncate
          rw [if_neg (by rw [hm]; simp), hg]
          show (if z < 0 ∨ (x.f.data.length : Int) < z then _ else _) = _
          rw [if_pos (by omega)]
        rw [hR]
        generalize spotN (nm s) (L.map RFile.n) = i at *
        have Hf := Lib.hid (fun q => rstep_same h (below_names w (.cells #[.string s] 9) q) 1)
        have Hcells := Lib.hid (show ∀ W, Below w.heap.size w W → W.cell? ⟨r, 1, none⟩ = some (.slice (some ⟨g, 0, none⟩) L.length c0) ∧ W.cell? ⟨g, i * 3 + 1, none⟩ = some x.b from fun W hb => by
          have hW := h.below hb
          exact ⟨hW.c1.trans (by rw [hgv]), (hW.core.at hgo hx).2.1⟩)
        obtain ⟨pb, cb, eb⟩ := HasB.slice (h.data x hxm).has
        rw [eb] at Hcells
        generalize x.f.data.length = m at *
        have Hmay := Lib.hid hmay
        have Hsp := Lib.hid hsp
        clear h h1 hmay hsp hm hR hg hx hxm eb hgo hlc
        subst hgv
        by_cases hz0 : z < 0
        · go_enter Try.func65, Try.ntmps65
          go_wp2_with fail
          refine Hmay.out.mono ?_
          rintro e w2 ⟨rfl, rfl⟩
          go_wp2_with fail
          refine Hsp.out.mono ?_
          rintro e w3 ⟨rfl, q, rfl⟩
          go_wp2_with fail
          go_ret
          exact Hf.out q
        · obtain ⟨y, rfl⟩ : ∃ y : Nat, z = (y : Int) := ⟨z.toNat, by omega⟩
          have hmy : m < y := by omega
          go_enter Try.func65, Try.ntmps65
          go_wp2_with fail
          refine Hmay.out.mono ?_
          rintro e w2 ⟨rfl, rfl⟩
          go_wp2_with fail
          refine Hsp.out.mono ?_
          rintro e w3 ⟨rfl, q, rfl⟩
          obtain ⟨hc1, hc2⟩ := Hcells.out _ (below_names w (.cells #[.string s] 9) q)
          go_wp2_with fail
          go_ret
          exact Hf.out q
  · have hR : D.truncate (nm s) z = (D, D.may [nm s]) := by unfold DiskM.truncate; rw [if_pos hm]
    rw [hR]
    have Hf := Lib.hid (rstep_same h ((Below.refl _ _).alloc (Nat.le_refl _) (.cells #[.string s] 9)) (D.may [nm s]))
    have Hmay := Lib.hid hmay
    generalize D.may [nm s] = m at *
    have hne : ((m : Int) != 0) = true := by simp; omega
    clear h h1 hmay hR
    go_enter Try.func65, Try.ntmps65
    go_wp2_with fail
    refine Hmay.out.mono ?_
    rintro e w2 ⟨rfl, rfl⟩
    go_wp2_with fail
    go_ret
    exact Hf.out
end
end Go.Proofs.Ytdlbamhabenhgaa

namespace Go.Sat
open Go Go.RowKit
/-- 'x[k:]', of elements of whatever size. -/
theorem run_from_any {P : Program} (w : World) {t e : TypeId} {i : TypeInfo} (ht : P.underlying t = some (.slice e)) (hi : P.info? e = some i) (p : Option Addr) (len cap k : Nat) (h : k ≤ len) (h2 : len ≤ cap) :
    (Instr.slice t (.slice p len cap) (some (.int .i64 (k : Int))) none none).run P w = .ok (.slice (if cap - k = 0 then p else p.map fun x => x.add (k * i.size)) (len - k) (cap - k)) w := by
  have h1 : (Instr.sliceBound (.int .i64 (k : Int)) len .sliceB).run P w = .ok k w := by
    rw [run_sliceBound _ _ _ _ _ (by omega) (by omega)]
    simp
  simp [Instr.slice, run_underlying ht, Instr.sliceBounds, h1, sizeOf, typeInfo, hi, Result.andThen]
  by_cases hc : cap = k
  · rw [if_pos hc, if_pos (by omega)]
  · rw [if_neg hc, if_neg (by omega)]

theorem Holds.upto {w : World} {size : Nat} {p : Option Addr} {n c : Nat} {xs : List Value} (h : Holds w size (.slice p n c) n xs) {k : Nat} (hk : k ≤ n) (c' : Nat) : Holds w size (.slice p k c') k (xs.take (k * size)) := by
  obtain ⟨hl, p', cap, e, h0, hc⟩ := h
  cases e
  refine ⟨by rw [List.length_take, hl]; exact Nat.min_eq_left (Nat.mul_le_mul_right _ hk), p, c', rfl, fun e => ?_, fun a ha i u hu => hc a ha i u ?_⟩
  · have := h0 e
    omega
  · rw [List.getElem?_take] at hu
    split at hu
    · exact hu
    · cases hu

theorem OwnR.cut_from {w : World} {e : TypeId} {size : Nat} {p : Option Addr} {n c : Nat} {xs : List Value} (h : OwnR w e size (.slice p n c) n xs) {k : Nat} (hk : k ≤ n) : Holds w size (.slice (if c - k = 0 then p else p.map fun x => x.add (k * size)) (n - k) (c - k)) (n - k) (xs.drop (k * size)) := by
  have hl : (xs.drop (k * size)).length = (n - k) * size := by rw [List.length_drop, h.1, Nat.sub_mul]
  rcases h.2 with ⟨e, hn⟩ | ⟨g, cap, cur, e, hg, hnc, _⟩
  · cases e
    have hk0 : k = 0 := by omega
    subst hk0
    exact ⟨hl, none, 0, by simp, fun _ => rfl, fun a ha => by cases ha⟩
  · cases e
    by_cases h0 : c - k = 0
    · rw [if_pos h0]
      have hnk : n - k = 0 := by omega
      rw [hnk] at hl ⊢
      have hx : xs.drop (k * size) = [] := List.eq_nil_of_length_eq_zero (by rw [hl]; simp)
      rw [hx]
      exact ⟨by simp, _, _, rfl, fun e => (by cases e), fun a ha i u hu => by simp at hu⟩
    · rw [if_neg h0]
      refine ⟨hl, _, _, rfl, fun e => (by cases e), fun a ha i u hu => ?_⟩
      cases ha
      have e1 : (⟨g, 0, none⟩ : Addr).add (k * size) = ⟨g, k * size, none⟩ := add_zero _ _
      have e2 : (⟨g, k * size, none⟩ : Addr).add i = ⟨g, k * size + i, none⟩ := by unfold Addr.add; split <;> simp_all
      show w.cell? (((⟨g, 0, none⟩ : Addr).add (k * size)).add i) = some u
      rw [e1, e2]
      rw [List.getElem?_drop] at hu
      have := h.cells (g := g) rfl (k * size + i) u hu
      rwa [add_zero] at this
end Go.Sat

namespace Go.Proofs.Ytdlbamhabenhgaa
open Go.RowKit Go.Sat Go.Maps

theorem cells_take (L : List RFile) (i : Nat) : (L.take i).flatMap RFile.cells = (L.flatMap RFile.cells).take (i * 3) := by
  induction L generalizing i with
  | nil => simp
  | cons y r ih =>
    cases i with
    | zero => simp
    | succ i =>
      have hy : y.cells.length = 3 := rfl
      rw [List.take_succ_cons, List.flatMap_cons, List.flatMap_cons, ih i, List.take_append, List.take_of_length_le (l := y.cells) (by omega)]
      congr 2
      omega

theorem cells_drop (L : List RFile) (i : Nat) : (L.drop i).flatMap RFile.cells = (L.flatMap RFile.cells).drop (i * 3) := by
  induction L generalizing i with
  | nil => simp
  | cons y r ih =>
    cases i with
    | zero => simp
    | succ i =>
      have hy : y.cells.length = 3 := rfl
      rw [List.drop_succ_cons, List.flatMap_cons, ih i, List.drop_append, List.drop_of_length_le (l := y.cells) (by omega), List.nil_append]
      congr 1
      omega

section
variable {w : World} {r : Nat} {v : Value} {L : List RFile} {own : Nat → Prop} {D : DiskM} {room : Nat} {fuse : Option Nat}

theorem cells_one {L : List RFile} (h : ∀ x ∈ L, x.b.oneCell' = true) : ∀ u ∈ L.flatMap RFile.cells, u.oneCell' = true := by
  intro u hu
  obtain ⟨x, hx, hux⟩ := List.mem_flatMap.1 hu
  simp only [RFile.cells, List.mem_cons, List.not_mem_nil, or_false] at hux
  rcases hux with rfl | rfl | rfl
  · rfl
  · exact h x hx
  · rfl

theorem RefCore.one (h : RefCore w r v L own room fuse) : ∀ x ∈ L, x.b.oneCell' = true := fun x hx => by
  obtain ⟨p, c, e, _⟩ := own_slice (h.data x hx)
  rw [e]
  rfl

/-- The list is another one. -/
theorem RefCore.relist (h : RefCore w r v L own room fuse) {v' : Value} {L' : List RFile} (hrow : OwnR w 96 3 v' L'.length (L'.flatMap RFile.cells)) (hL : ∀ x ∈ L', x ∈ L ∨ (OwnB w 5 x.b x.f.data ∧ ∀ k, x.b.ownBlock = some k → own k ∧ k ≠ r)) (hn : ∀ k, v'.ownBlock = some k → ¬ own k) :
    RefCore (w.setCell ⟨r, 1, none⟩ v') r v' L' (fun k => own k ∨ v'.ownBlock = some k) room fuse where
  cells := set_block h.cells 1 v'
  row := hrow.keep fun k hk => set_other _ (fun e => hn k hk (by have e : k = r := e; rw [e]; exact h.or))
  data := fun x hx => by
    rcases hL x hx with hx | ⟨e, e2⟩
    · exact OwnR.keep (h.data x hx) fun k hk => set_other _ (h.ob x hx k hk).2.1
    · exact OwnR.keep e fun k hk => set_other _ (e2 k hk).2
  or := .inl h.or
  ov := fun k hk => ⟨.inr hk, fun e => hn k hk (by rw [e]; exact h.or)⟩
  ob := fun x hx k hk => by
    rcases hL x hx with hx | ⟨_, e⟩
    · exact ⟨.inl (h.ob x hx k hk).1, (h.ob x hx k hk).2.1, fun e => hn k e (h.ob x hx k hk).1⟩
    · exact ⟨.inl (e k hk).1, (e k hk).2, fun e2 => hn k e2 (e k hk).1⟩
  olt := fun k hk => by
    have : k < w.heap.size := by
      rcases hk with hk | hk
      · exact h.olt k hk
      · exact hrow.lt hk
    simpa [World.setCell] using this
end
end Go.Proofs.Ytdlbamhabenhgaa
