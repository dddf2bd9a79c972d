/- ledger: Drop; a nil Ledger. (Printed by mkled8.py.) What a disk's steps leave where nothing stands in their way, and behind a burnt fuse (plain laws). What a disk holds that a ledger of the prefix "a" has written, and what it opens as (plain laws). What Append, Write and Crash leave on the disk of a ledger "a" (plain laws). What Write leaves on the disk of a ledger "a", and behind a crash (plain laws). Append and Write of a text that stands in the code; a row that is made a string; the contract of satrapylaw14.known: it is true. What a law does with a ledger beside Append and Write: the fuse, a reading, rows that were handed in, rows of its own. A ledger's files on a disk of which other files may stand (plain laws). zone.Make at an economy of nothing. Structs of many cells, loaded and stored whole: the cells are a list that stays folded. No program. wire: May at the word that the law's known tells. Printed by mkta.py. wire: plain of the word that the law's known tells. Printed by mktb.py. wire: May of the word that the law's known tells. Printed by mktc.py. piece: an In of four bytes that come at once. target: told, and the closure that tells back. Printed by mktd.py. target: copies of the word that the law's known tells. Printed by mktf.py. target: Hear; a zone's Head and Last. Printed by mktg.py. The contract of satrapylaw4.known: it is true. KeepOfNothing: the walk. -/
import Derived.BigFrame
import Derived.Deep.MidRow
import Derived.Laws.CopyRow
import Derived.OwnWalk
import Derived.Test.YteobfgmkajddfaaGreatDoorVA
import Derived.Test.YteobfgmkajddfaaGreatDoorVB
import Derived.Test.YteobfgmkajddfaaGreatDoorVC
import Derived.Test.YteobfgmkajddfaaGreatDoorVD
import Derived.Test.YteobfgmkajddfaaGreatDoorVE
import Derived.Test.YteobfgmkajddfaaGreatDoorVG
namespace Go.Proofs.YteobfgmkajddfaaGreatDoor
open Go.RowKit Go.Sat Go.Maps

set_option maxRecDepth 100000 in
theorem nil_append (w : World) (x : Value) : Calls Tryz.prog 49 #[.pointer none, x] w fun e w' => e = .returned (.tuple #[.int .i64 0, .int .i64 1]) ∧ w' = w := by
  go_enter Tryz.func49, Tryz.ntmps49
  go_wp2_with fail
  go_ret2
  exact ⟨rfl, rfl⟩

section
variable {w w1 w2 wc : World} {l d : Nat} {pre : ByteArray} {D : DiskM} {M : LedM} {F : Nat → Prop}

end
end Go.Proofs.YteobfgmkajddfaaGreatDoor

namespace Go.Proofs.YteobfgmkajddfaaGreatDoor
open Go.RowKit Go.Sat Go.Maps

section
variable {D : DiskM} {n b : Bs}

theorem may_ok (hf : D.fuse ≠ some 0) (hn : okN n = true) : D.may [n] = 0 := by
  unfold DiskM.may
  rw [if_neg hf, if_pos (by simp [hn])]
theorem remove_ok {f : FileM} (hf : D.fuse ≠ some 0) (hn : okN n = true) (hg : Sat.get n D.files = some f) : D.remove [n] = (⟨D.room, del n D.files, offF D.fuse 1⟩, 0) := by
  have h1 : DiskM.each1 DiskM.gRemove D n = (⟨D.room, del n D.files, offF D.fuse 1⟩, 0) := by
    unfold DiskM.each1
    rw [if_neg (by rw [may_ok hf hn]; simp), hg]
    rfl
  show (if (DiskM.each1 _ _ _).2 = 0 then _ else _) = _
  rw [h1, if_pos rfl]
  rfl
end
end Go.Proofs.YteobfgmkajddfaaGreatDoor

namespace Go.Proofs.YteobfgmkajddfaaGreatDoor
open Go.RowKit Go.Sat Go.Maps

/-- A file all of which lasts. -/
def whole (b : Bs) : FileM := ⟨b, b.length⟩

/-- The records of entries behind a number. -/
def recF : Nat → List Bs → List Bs
  | _, [] => []
  | n, e :: r => imgB (n + 1) e :: recF (n + 1) r

theorem imgB_len (n : Nat) (p : Bs) (hn : n ≤ 4611686018427387904) (hp : p.length ≤ 4611686018427387904) : (imgB n p).length ≤ p.length + 18 := by
  unfold imgB rowB
  have h1 := numB_nine hn
  have h2 := numB_nine hp
  rw [List.length_append, List.length_append]
  omega

theorem rd_img (n : Nat) (p : Bs) (hn : n ≤ 4611686018427387904) : Rd.num ⟨imgB n p, false⟩ = (n, ⟨rowB p, false⟩) := Rd.num_of hn _ _
theorem rd_row (p : Bs) (hp : p.length ≤ 4611686018427387904) : Rd.bytes ⟨rowB p, false⟩ = (p, ⟨[], false⟩) := by
  have := Rd.bytes_of hp [] false
  rwa [List.append_nil] at this

/-- What is asked of entries. -/
def Fits (n : Nat) (es : List Bs) : Prop := n + es.length ≤ 1099511627776 ∧ ∀ e ∈ es, e.length ≤ 65536

theorem take1_next {base : Nat} {la : Int} {es : List Bs} {p : Bs} (hla : la = -1 ∨ la = ((base + es.length : Nat) : Int)) (hn : base + es.length + 1 ≤ 1099511627776) (hp : p.length ≤ 65536) :
    take1 base (la, es) (imgB (base + es.length + 1) p) = some (((base + es.length + 1 : Nat) : Int), es ++ [p]) := by
  unfold take1
  rw [rd_img _ _ (by omega)]
  dsimp only
  rw [rd_row _ (by omega)]
  rw [if_neg (by
    rintro (h | h | h | ⟨h1, h2⟩)
    · cases h
    · omega
    · omega
    · rcases hla with e | e <;> omega), if_neg (by omega), if_neg (by simp)]

theorem takeAll_new (base : Nat) : ∀ (fs es : List Bs) (la : Int), (la = -1 ∨ la = ((base + es.length : Nat) : Int)) → Fits (base + es.length) fs →
    ∃ lb, takeAll base (la, es) (recF (base + es.length) fs) = some (lb, es ++ fs)
  | [], es, la, _, _ => ⟨la, by rw [List.append_nil]; rfl⟩
  | f :: fs, es, la, hla, hf => by
    have h1 := take1_next (p := f) hla (by have := hf.1; simp at this; omega) (hf.2 f (by simp))
    obtain ⟨lb, h2⟩ := takeAll_new base fs (es ++ [f]) ((base + es.length + 1 : Nat) : Int) (.inr (by rw [List.length_append]; rfl)) ⟨by have := hf.1; simp at this ⊢; omega, fun e he => hf.2 e (by simp [he])⟩
    refine ⟨lb, ?_⟩
    show (match take1 base (la, es) (imgB (base + es.length + 1) f) with | none => none | some t => takeAll base t (recF (base + es.length + 1) fs)) = _
    rw [h1]
    rw [List.length_append, List.append_assoc] at h2
    exact h2

/-! ### The disk -/
def baseOf : Option (Nat × Bs) → Nat
  | none => 0
  | some (n, _) => n
def dataI : Option (Nat × Bs) → Bs
  | none => []
  | some (_, b) => b

/-! ### What it opens as -/
theorem image_none : imageOf none = (0, 0, []) := by
  unfold imageOf
  rw [if_pos loadE_none]
theorem image_some (n : Nat) (p : Bs) (hn : n ≤ 1099511627776) (hp : p.length ≤ 524288) : imageOf (some (whole (frameN (imgB n p)))) = (0, n, p) := by
  have hl := imgB_len n p (by omega) (by omega)
  have h := load_frame (imgB n p) (by omega) (frameN (imgB n p)).length
  unfold imageOf whole
  rw [h.1, h.2, if_neg (by decide), if_neg (by decide), rd_img _ _ (by omega)]
  dsimp only
  rw [rd_row _ (by omega), if_neg (by
    rintro (h | h)
    · cases h
    · omega)]

def OkI : Option (Nat × Bs) → Prop
  | none => True
  | some (n, p) => n ≤ 1099511627776 ∧ p.length ≤ 524288

theorem rid_none {D : DiskM} {n : Bs} (h : Sat.get n D.files = none) : D.rid [n] = (D, 0) := by
  have : DiskM.rid1 D n = (D, 0) := by unfold DiskM.rid1; rw [h]; rfl
  show (if (DiskM.rid1 D n).2 = 0 then _ else _) = _
  rw [this]
  rfl
theorem rid_some {D : DiskM} {n : Bs} {f : FileM} (hf : D.fuse ≠ some 0) (hn : okN n = true) (h : Sat.get n D.files = some f) : D.rid [n] = (⟨D.room, del n D.files, offF D.fuse 1⟩, 0) := by
  have : DiskM.rid1 D n = (⟨D.room, del n D.files, offF D.fuse 1⟩, 0) := by unfold DiskM.rid1; rw [h]; exact remove_ok hf hn h
  show (if (DiskM.rid1 D n).2 = 0 then _ else _) = _
  rw [this]
  rfl
theorem Fits.rows {n : Nat} {es : List Bs} (h : Fits n es) : ∀ l ∈ recF n es, l.length ≤ 1048576 := by
  induction es generalizing n with
  | nil => intro l hl; cases hl
  | cons e r ih =>
    intro l hl
    have h1 := h.1
    simp only [List.length_cons] at h1
    cases hl with
    | head =>
      have h2 := h.2 e (by simp)
      have := imgB_len (n + 1) e (by omega) (by omega)
      omega
    | tail _ hl => exact ih ⟨by omega, fun e he => h.2 e (by simp [he])⟩ l hl

end Go.Proofs.YteobfgmkajddfaaGreatDoor

namespace Go.Proofs.YteobfgmkajddfaaGreatDoor
open Go.RowKit Go.Sat Go.Maps

def MM (im : Option (Nat × Bs)) (es : List Bs) : LedM := ⟨baseOf im, dataI im, es, false⟩

theorem MM_last (im : Option (Nat × Bs)) (es : List Bs) : (MM im es).last = baseOf im + es.length := rfl

/-! ### A crash -/
/-! ### With a shadow beside -/
/-! ### Append -/
section
variable {im : Option (Nat × Bs)} {es : List Bs} {p : Bs}

end
end Go.Proofs.YteobfgmkajddfaaGreatDoor

namespace Go.Proofs.YteobfgmkajddfaaGreatDoor
open Go.RowKit Go.Sat Go.Maps

/-- What a ledger of this prefix has on a disk. -/
structure Lies (pre : Bs) (D : DiskM) (im : Option (Nat × Bs)) (es : List Bs) : Prop where
  log : Sat.get (logN pre) D.files = if es = [] then none else some (whole (recsB (recF (baseOf im) es)))
  img : Sat.get (imgN pre) D.files = im.map fun x => whole (frameN (imgB x.1 x.2))
  sh : Sat.get (shadowN (imgN pre)) D.files = none

structure Tame (D : DiskM) (u c : Nat) : Prop where
  room : 65536 ≤ D.room
  fuse : D.fuse = none
  used : D.used ≤ u
  count : D.files.length ≤ c

theorem log_ok {pre : Bs} (h : pre.length ≤ 20) : okN (logN pre) = true := by
  have : (logN pre).length = pre.length + 4 := by simp [logN, logX]
  simp [okN, this]
  omega
theorem img_len (pre : Bs) : (imgN pre).length = pre.length + 4 := by simp [imgN, imgX]
theorem log_img (pre : Bs) : logN pre ≠ imgN pre := fun e => by
  have := List.append_cancel_left e
  exact absurd this (by decide)
theorem log_sh (pre : Bs) : logN pre ≠ shadowN (imgN pre) := fun e => by
  have := congrArg List.length e
  rw [shadow_len, img_len] at this
  simp [logN, logX] at this
theorem img_sh (pre : Bs) : imgN pre ≠ shadowN (imgN pre) := shadow_ne _

theorem lies_img {pre : Bs} {D : DiskM} {im : Option (Nat × Bs)} {es : List Bs} (h : Lies pre D im es) (hi : OkI im) : imageOf (Sat.get (imgN pre) D.files) = (0, baseOf im, dataI im) := by
  rw [h.img]
  cases im with
  | none => exact image_none
  | some x => exact image_some x.1 x.2 hi.1 hi.2

theorem openG {D D1 : DiskM} {pre : Bs} {i : Nat × Nat × Bs} {g : DiskM × Nat × List Bs} (hp : 1 ≤ pre.length ∧ pre.length ≤ 20) (h1 : D.rid [shadowN (imgN pre)] = (D1, 0)) (hi : imageOf (Sat.get (imgN pre) D1.files) = i) (hi0 : i.1 = 0) (hg : logOf D1 pre i.2.1 = g) : ledOpen D pre = (g.1, g.2.1, ⟨i.2.1, i.2.2, g.2.2, false⟩) := by
  unfold ledOpen
  rw [if_neg (by omega), h1]
  rw [if_neg (by simp)]
  dsimp only
  rw [hi, if_neg (by simpa using hi0), hg]

theorem open_lies {pre : Bs} {D : DiskM} {im : Option (Nat × Bs)} {es : List Bs} (hp : 1 ≤ pre.length ∧ pre.length ≤ 20) (h : Lies pre D im es) (hi : OkI im) (hf : Fits (baseOf im) es) : ledOpen D pre = (D, 0, MM im es) := by
  refine openG (i := (0, baseOf im, dataI im)) (g := (D, 0, es)) hp (rid_none h.sh) (lies_img h hi) rfl ?_
  unfold logOf
  rw [h.log]
  by_cases he : es = []
  · subst he
    rw [if_pos rfl]
  · rw [if_neg he]
    obtain ⟨lb, hl⟩ := takeAll_new (baseOf im) es [] (-1) (.inl rfl) (by simpa using hf)
    have hs := scan_recs (recF (baseOf im) es) [] hf.rows (.inl rfl)
    rw [List.append_nil] at hs
    have hl' : takeAll (baseOf im) (-1, []) (recF (baseOf im) es) = some (lb, es) := by simpa using hl
    have hT : tornOff D (logN pre) (recsB (recF (baseOf im) es)).length (recsB (recF (baseOf im) es)).length = (D, 0) := if_neg (by omega)
    dsimp only
    show (match takeAll (baseOf im) (-1, []) (scan (recsB (recF (baseOf im) es))).1 with | none => _ | some s => _) = _
    rw [hs, hl']
    dsimp only
    rw [show (whole (recsB (recF (baseOf im) es))).data = recsB (recF (baseOf im) es) from rfl, hs, hT, if_neg (by simp), if_neg he]

theorem used_put (n : Bs) (f : FileM) (L : List (Bs × FileM)) (h : Srt L) : sumBy DiskM.size (put n f L) ≤ f.data.length + sumBy DiskM.size L := by
  rw [sum_put]
  have : sumBy DiskM.size (del n L) ≤ sumBy DiskM.size L := by
    cases hg : Sat.get n L with
    | none => rw [del_none hg]; exact Nat.le_refl _
    | some a =>
      rw [sum_del h hg]
      omega
  show f.data.length + _ ≤ _
  omega
theorem used_del (n : Bs) (L : List (Bs × FileM)) (h : Srt L) : sumBy DiskM.size (del n L) ≤ sumBy DiskM.size L := by
  cases hg : Sat.get n L with
  | none => rw [del_none hg]; exact Nat.le_refl _
  | some a =>
    rw [sum_del h hg]
    omega
theorem count_del (n : Bs) (L : List (Bs × FileM)) (h : Srt L) : (del n L).length ≤ L.length := by
  cases hg : Sat.get n L with
  | none => rw [del_none hg]; exact Nat.le_refl _
  | some a =>
    rw [len_del h hg]
    omega
theorem count_put (n : Bs) (f : FileM) (L : List (Bs × FileM)) (h : Srt L) : (put n f L).length ≤ L.length + 1 := by
  rw [len_put]
  have := count_del n L h
  omega
section
variable {pre : Bs} {D : DiskM} {im : Option (Nat × Bs)} {es : List Bs} {u c : Nat} {p : Bs}

theorem rid_gone {n : Bs} (hO : Srt D.files) (hf : D.fuse = none) (hn : okN n = true) : D.rid [n] = (⟨D.room, del n D.files, none⟩, 0) := by
  cases hg : Sat.get n D.files with
  | none =>
    rw [rid_none hg, del_none hg, ← hf]
  | some f =>
    rw [rid_some (by rw [hf]; intro e; cases e) hn hg, hf]
    rfl

theorem wri_lies {n : Nat} (hp : 1 ≤ pre.length ∧ pre.length ≤ 20) (hO : D.OK) (hT : Tame D u c) (h : Lies pre D im es) (hl : baseOf im + es.length ≤ n) (hn : n ≤ 1099511627776) (hpl : p.length ≤ 524288) (hu : u + p.length + 30 ≤ 65536) (hc : c < 4096) :
    ∃ D2, ledWrite pre D (MM im es) (n : Int) p = ⟨D2, MM (some (n, p)) [], 0, 0⟩ ∧ Lies pre D2 (some (n, p)) [] ∧ Tame D2 (u + p.length + 30) (c + 1) ∧ ∀ m, m ≠ logN pre → m ≠ imgN pre → Sat.get m D2.files = Sat.get m D.files := by
  have hlen := imgB_len n p (by omega) (by omega)
  have hfl := frame_len (imgB n p)
  have hs := save_all (D := D) (n := imgN pre) (l := imgB n p) hO (fun j e => by rw [hT.fuse] at e; cases e) (by rw [img_len]; omega) (by rw [img_len]; omega) h.sh (by have := hT.used; have := hT.room; omega) (by have := hT.count; omega)
  rw [hT.fuse] at hs
  have hr := rid_gone (D := ⟨D.room, put (imgN pre) ⟨frameN (imgB n p), (frameN (imgB n p)).length⟩ D.files, offF none 3⟩) (n := logN pre) (srt_put hO.srt) rfl (log_ok hp.2)
  have hI : imgOn pre D n p = (⟨D.room, del (logN pre) (put (imgN pre) (whole (frameN (imgB n p))) D.files), none⟩, 0) := by
    unfold imgOn
    rw [hs, if_neg (by simp)]
    exact hr
  have hS := srt_put (n := imgN pre) (a := whole (frameN (imgB n p))) hO.srt
  refine ⟨⟨D.room, del (logN pre) (put (imgN pre) (whole (frameN (imgB n p))) D.files), none⟩, ?_, ⟨?_, ?_, ?_⟩, ⟨hT.room, rfl, ?_, ?_⟩, fun m hm1 hm2 => ?_⟩
  · unfold ledWrite
    rw [if_neg (by simp [MM]), if_neg (by rw [MM_last]; omega), if_neg (by omega), Int.toNat_natCast, hI, if_neg (by simp)]
    rfl
  · show Sat.get _ (del _ _) = _
    rw [get_del_same, if_pos rfl]
  · show Sat.get _ (del _ _) = _
    rw [get_del_other hS (log_img pre).symm, get_put_same hO.srt]
    rfl
  · show Sat.get _ (del _ _) = _
    rw [get_del_other hS (log_sh pre).symm, get_put_other hO.srt _ (img_sh pre).symm, h.sh]
  · refine Nat.le_trans (used_del _ _ hS) (Nat.le_trans (used_put _ _ _ hO.srt) ?_)
    have := hT.used
    show (frameN (imgB n p)).length + D.used ≤ _
    omega
  · exact Nat.le_trans (count_del _ _ hS) (Nat.le_trans (count_put _ _ _ hO.srt) (by have := hT.count; omega))
  · show Sat.get _ (del _ _) = _
    rw [get_del_other hS hm1, get_put_other hO.srt _ hm2]

end

theorem Lies.other {pre : Bs} {D D2 : DiskM} {im : Option (Nat × Bs)} {es : List Bs} (h : Lies pre D im es) (hk : ∀ m, m = logN pre ∨ m = imgN pre ∨ m = shadowN (imgN pre) → Sat.get m D2.files = Sat.get m D.files) : Lies pre D2 im es :=
  ⟨by rw [hk _ (.inl rfl)]; exact h.log, by rw [hk _ (.inr (.inl rfl))]; exact h.img, by rw [hk _ (.inr (.inr rfl))]; exact h.sh⟩
theorem lies_new (pre : Bs) (n : Nat) : Lies pre (DiskM.fresh n) none [] := ⟨rfl, rfl, rfl⟩
theorem tame_new {n : Nat} (h : 65536 ≤ n) : Tame (DiskM.fresh n) 0 0 := ⟨h, rfl, Nat.le_refl _, Nat.le_refl _⟩
end Go.Proofs.YteobfgmkajddfaaGreatDoor

namespace Go.Proofs.YteobfgmkajddfaaGreatDoor
open Go.RowKit Go.Sat Go.Maps

/-- A zone of a law's own, its disk, and blocks (F) that neither has. -/
def ZoneF (w w1 : World) (z d : Nat) (h : HeadM) (pre : ByteArray) (D : DiskM) (M : LedM) (E : EcoR) (ev : Value) (dead : Bool) (F : Nat → Prop) : Prop :=
  ∃ eb l vm sm tm am own, LedF w w1 l d pre D M (fun k => F k ∨ k = z ∨ own k ≠ none ∨ ev.ownBlock = some k) ∧ w1.heap[z]? = some (ZoneO h eb l ev dead) ∧ EconIn w1 eb vm sm tm am E own ∧
    (∀ k, F k → k ≠ z ∧ own k = none ∧ ev.ownBlock ≠ some k) ∧ own z = none ∧ (∀ k, ev.ownBlock = some k → k ≠ z ∧ own k = none) ∧ w.heap.size ≤ z ∧ (∀ k, own k ≠ none → w.heap.size ≤ k) ∧ ∀ k, ev.ownBlock = some k → w.heap.size ≤ k
theorem St.more {w w1 w2 : World} {d : Nat} {D : DiskM} {F F' : Nat → Prop} (h : St w w1 d D F) (hb : Below w1.heap.size w1 w2) (hF : ∀ k, F' k → (F k ∨ w1.heap.size ≤ k) ∧ k < w2.heap.size) : St w w2 d D F' := h.move (Chg.of_below hb) (fun _ _ h => h.elim) hF
theorem open_same {w w1 : World} {d : Nat} {D D' : DiskM} {M : LedM} {F : Nat → Prop} {a : ByteArray} (h : St w w1 d D F) (he : ledOpen D (nm a) = (D', 0, M)) :
    Calls Tryz.prog 35 #[.pointer (some ⟨d, 0, none⟩), .string a] w1 fun e w' => ∃ l, e = .returned (.tuple #[.pointer (some ⟨l, 0, none⟩), .int .i64 0]) ∧ LedF w w' l d a D' M F ∧ Same F w1 w' := by
  have h1 := open_calls h a
  rw [he] at h1
  refine h1.mono ?_
  rintro e w' ⟨-, hs, ⟨-, l, rfl, hL⟩ | ⟨hne, -⟩⟩
  · exact ⟨l, rfl, hL, hs⟩
  · exact absurd rfl hne
theorem HeadM.ranges {h : HeadM} (hh : h.is = true) : (1 ≤ h.id ∧ h.id ≤ 1048576) ∧ (h.fr.size ≤ 16 ∧ h.tu.size ≤ 16) ∧ (1 ≤ h.epoch ∧ h.epoch ≤ 1099511627776) ∧ 1 ≤ h.state ∧ h.state ≤ 3 := by
  unfold HeadM.is isSpan at hh
  simp at hh
  omega
theorem HeadM.small_of {h : HeadM} (hh : h.is = true) : h.small := by
  have := HeadM.ranges hh
  unfold HeadM.small
  omega
theorem EconIn.keep2 {w w' : World} {eb vm sm tm am : Nat} {E : EcoR} {own : Nat → Option (Nat × Bs)} (h : EconIn w eb vm sm tm am E own) (hs : ∀ k, own k ≠ none → w'.heap[k]? = w.heap[k]?) : EconIn w' eb vm sm tm am E own :=
  ⟨(hs eb (by rw [h.oE]; simp)).trans h.cells, h.vaults.keep (hs vm (by rw [h.oV]; simp)),
   fun p hp => (h.each p hp).keep fun k hk => hs k (by rcases hk with rfl | rfl | rfl <;> simp [h.oP p hp]),
   h.sess.keep (hs sm (by rw [h.oS]; simp)), h.trans.keep (hs tm (by rw [h.oT]; simp)), h.arr.keep (hs am (by rw [h.oA]; simp)),
   h.oE, h.oV, h.oS, h.oT, h.oA, h.oP, fun k hk => by
     have h1 := hs k hk
     rw [Array.getElem?_eq_getElem (h.oLt k hk)] at h1
     exact lt_of_block h1⟩
def MadeZ (w w1 : World) (d : Nat) (h : HeadM) (pre : ByteArray) (D : DiskM) (M : LedM) (F : Nat → Prop) (e : Ending) (w' : World) : Prop := ∃ z, e = .returned (.tuple #[.pointer (some ⟨z, 0, none⟩), .int .i64 0]) ∧ ZoneF w w' z d h pre D M E0 (.slice none 0 0) false F ∧ Same F w1 w'
def HeadO (h : HeadM) : Obj := .cells #[.int .i64 h.id, .string h.fr, .string h.tu, .int .i64 h.epoch, .int .i64 h.state] 35 (0, 0)
set_option maxRecDepth 100000 in
set_option maxHeartbeats 16000000 in
theorem make0_calls {w w1 : World} {d : Nat} {D D1 D2 : DiskM} {M1 M2 : LedM} {F : Nat → Prop} (hS : St w w1 d D F) (h : HeadM) (hh : h.is = true) (n : Nat) (hidn : h.id = (n : Int)) (hn : n < 100) (i : Int) (hi : -9223372036854775808 ≤ i ∧ i ≤ 9223372036854775807) {p : Option Addr} {c : Nat} (hx : HasB w1 (.slice p 4 c) [0, 0, 0, 0])
    (ho : ledOpen D (nm (zpre n)) = (D1, 0, M1)) (hw : ledWrite (nm (zpre n)) D1 M1 i (zdata h [0, 0, 0, 0]) = ⟨D2, M2, 0, 0⟩) (hlen : (zdata h [0, 0, 0, 0]).length ≤ 140737488355328) :
    Calls Tryz.prog 9 #[.pointer (some ⟨d, 0, none⟩), .agg #[.int .i64 h.id, .string h.fr, .string h.tu, .int .i64 h.epoch, .int .i64 h.state], .int .i64 i, .slice p 4 c] w1 (MadeZ w w1 d h (zpre n) D2 M2 F) := by
  have hr := HeadM.ranges hh
  have Hsm := Lib.hid (HeadM.small_of hh)
  have HI := Lib.hid (fun W => ishead_calls W h ⟨by omega, by omega⟩)
  rw [hh] at HI
  have Ho := Lib.hid ho
  have Hw := Lib.hid hw
  have HS := Lib.hid hS
  have Hx := Lib.hid hx
  have Hl := Lib.hid hlen
  clear hr hh ho hw hS hx hlen
  obtain ⟨id, fr, tu, ep, st⟩ := h
  obtain rfl : id = (n : Int) := hidn
  dsimp only at HI ⊢
  have hB1 := box_below w1 (HeadO ⟨n, fr, tu, ep, st⟩)
  have hH1 := new_block w1 (HeadO ⟨n, fr, tu, ep, st⟩)
  have Hp := Lib.hid (And.intro hB1 hH1)
  clear hB1 hH1
  go_enter Tryz.func9, Tryz.ntmps9
  go_wp2_with fail
  refine (HI.out _).mono ?_
  rintro e W2 ⟨rfl, hb⟩
  have HB2 := Lib.hid (Hp.out.1.trans (hb.mono Hp.out.1.size))
  have HH2 := Lib.hid ((hb.block _ (lt_of_block Hp.out.2)).trans Hp.out.2)
  clear hb HI Hp
  have HD := Lib.hid (decode0_calls (HasB.below Hx.out HB2.out))
  go_wp2_with fail
  refine HD.out.mono ?_
  rintro e W3 ⟨eb, rfl, hE, hb⟩
  have HB3 := Lib.hid (HB2.out.trans (hb.mono HB2.out.size))
  have HH3 := Lib.hid ((hb.block _ (lt_of_block HH2.out)).trans HH2.out)
  have HE3 := Lib.hid (hE.less HB2.out.size)
  clear hb hE HD HH2 HB2
  have p1 : W3.cell? ⟨w1.heap.size, 1, none⟩ = some (.string fr) := cell_of HH3.out rfl
  have p2 : W3.cell? ⟨w1.heap.size, 2, none⟩ = some (.string tu) := cell_of HH3.out rfl
  obtain ⟨vm, sm, tm, am, own, hE, ho⟩ := HE3.out
  have HF := Lib.hid (fits0_calls hE fr tu)
  have HE := Lib.hid (And.intro hE ho)
  clear hE ho HE3
  go_wp2_with fail
  refine HF.out.mono ?_
  rintro e W4 ⟨rfl, hb⟩
  have HB4 := Lib.hid (HB3.out.trans (hb.mono HB3.out.size))
  have HH4 := Lib.hid ((hb.block _ (lt_of_block HH3.out)).trans HH3.out)
  have HE4 := Lib.hid (HE.out.1.bel hb)
  clear hb HF p1 p2 HH3 HB3
  have p0 : W4.cell? ⟨w1.heap.size, 0, none⟩ = some (.int .i64 (n : Int)) := cell_of HH4.out rfl
  go_wp2_with fail
  refine (prefix_calls2 W4 n hn).mono ?_
  rintro e W4' ⟨rfl, hW4'⟩
  obtain rfl : W4 = W4' := hW4'.symm
  have HO := Lib.hid (open_same (F := fun k => F k ∨ (w1.heap.size ≤ k ∧ k < W4.heap.size)) (HS.out.more HB4.out fun k hk => by
    rcases hk with hk | hk
    · exact ⟨.inl hk, Nat.lt_of_lt_of_le (HS.out.flt hk) HB4.out.size⟩
    · exact ⟨.inr hk.1, hk.2⟩) Ho.out)
  clear p0
  go_wp2_with fail
  refine HO.out.mono ?_
  rintro e W5 ⟨l, rfl, hL, hs⟩
  have HL5 := Lib.hid (And.intro hL hs)
  clear hL hs HO
  have HH5 := Lib.hid ((HL5.out.2 _ (.inr ⟨Nat.le_refl _, lt_of_block HH4.out⟩)).trans HH4.out)
  have HE5 := Lib.hid (HE4.out.keep2 fun k hk => HL5.out.2 k (.inr ⟨HE.out.2 k hk, HE4.out.oLt k hk⟩))
  have p0 : W5.cell? ⟨w1.heap.size, 0, none⟩ = some (.int .i64 (n : Int)) := cell_of HH5.out rfl
  have p1 : W5.cell? ⟨w1.heap.size, 1, none⟩ = some (.string fr) := cell_of HH5.out rfl
  have p2 : W5.cell? ⟨w1.heap.size, 2, none⟩ = some (.string tu) := cell_of HH5.out rfl
  have p3 : W5.cell? ⟨w1.heap.size, 3, none⟩ = some (.int .i64 ep) := cell_of HH5.out rfl
  have p4 : W5.cell? ⟨w1.heap.size, 4, none⟩ = some (.int .i64 st) := cell_of HH5.out rfl
  clear HH4
  go_wp2_with fail
  obtain ⟨Z, hZ⟩ : ∃ Z, Z = ZoneO ⟨n, fr, tu, ep, st⟩ eb l (.slice none 0 0) false := ⟨_, rfl⟩
  have hb6 := box_below W5 Z
  have hz6 := new_block W5 Z
  have hL6 := HL5.out.1.box Z
  rw [hZ] at hb6 hz6 hL6
  have HZ6 := Lib.hid (And.intro hb6 (And.intro hz6 hL6))
  have hE6 := HE5.out.bel hb6
  have Hda := Lib.hid (zdata_calls (ev := .slice none 0 0) (dead := false) hz6 hE6 Hsm.out)
  have HE6 := Lib.hid hE6
  clear hE6 hb6 hz6 hL6 hZ p0 p1 p2 p3 p4
  obtain ⟨W6, hW6⟩ : ∃ W6, W6 = W5.alloc (ZoneO ⟨n, fr, tu, ep, st⟩ eb l (.slice none 0 0) false) := ⟨_, rfl⟩
  rw [← hW6] at HZ6 Hda HE6
  refine ((show Calls Tryz.prog 38 #[.pointer (some ⟨W5.heap.size, 0, none⟩)] (W5.alloc (ZoneO ⟨n, fr, tu, ep, st⟩ eb l (.slice none 0 0) false)) _ from hW6 ▸ Hda.out)).mono ?_
  rintro e W7 ⟨v, rfl, hv, hvn, hb7⟩
  rw [← hW6] at hvn hb7
  obtain ⟨pv, cv, rfl, -⟩ := own_cap0 hv
  have hz7 := (hb7.block _ (lt_of_block HZ6.out.2.1)).trans HZ6.out.2.1
  have HE7 := Lib.hid (HE6.out.bel hb7)
  have HL7 := Lib.hid (HZ6.out.2.2.more hb7 (F' := fun k => ((F k ∨ (w1.heap.size ≤ k ∧ k < W4.heap.size)) ∨ k = W5.heap.size) ∨ (Value.slice pv (zdata ⟨n, fr, tu, ep, st⟩ [0, 0, 0, 0]).length cv).ownBlock = some k) fun k hk => hk.imp id fun e => ⟨hvn k e, OwnR.lt hv e⟩)
  have Hwr := Lib.hid (lwrite_calls HL7.out i hi (fun W _ hs => has_own hv fun k hk => hs k (.inr hk)) Hl.out)
  rw [Hw.out] at Hwr
  have HV := Lib.hid (And.intro hz7 (And.intro hv (And.intro hvn hb7)))
  clear hz7 hv hvn hb7 Hda
  obtain ⟨nz, hnz⟩ : ∃ nz, nz = (zdata ⟨n, fr, tu, ep, st⟩ [0, 0, 0, 0]).length := ⟨_, rfl⟩
  rw [← hnz] at Hwr ⊢
  clear hnz
  go_wp2_with fail
  refine Hwr.out.mono ?_
  rintro e W8 ⟨rfl, hL8, hs8⟩
  have HL8 := Lib.hid (And.intro hL8 hs8)
  clear hL8 hs8 Hwr
  go_wp2_with fail
  go_ret2
  have hlo := HS.out.below.size
  have h15 : w1.heap.size < W5.heap.size := lt_of_block HH5.out
  have hown : ∀ k, own k ≠ none → w1.heap.size ≤ k ∧ k < W4.heap.size := fun k hk => ⟨HE.out.2 k hk, HE4.out.oLt k hk⟩
  refine ⟨W5.heap.size, rfl, ⟨eb, l, vm, sm, tm, am, own, HL8.out.1.less fun k hk => ?_, (HL8.out.2 _ (.inl (.inr rfl))).trans HV.out.1, (HE6.out.bel HV.out.2.2.2).keep2 fun k hk => HL8.out.2 k (.inl (.inl (.inr (hown k hk)))), fun k hk => ⟨?_, ?_, by simp [Value.ownBlock]⟩, ?_, fun k hk => (by cases hk), (by omega), fun k hk => (by have := (hown k hk).1; omega), fun k hk => (by cases hk)⟩, fun k hk => ?_⟩
  · rcases hk with hk | rfl | hk | hk
    · exact .inl (.inl (.inl hk))
    · exact .inl (.inr rfl)
    · exact .inl (.inl (.inr (hown k hk)))
    · cases hk
  · have := HS.out.flt hk
    omega
  · refine Classical.byContradiction fun hh => ?_
    have h1 := (hown k hh).1
    have h2 := HS.out.flt hk
    omega
  · refine Classical.byContradiction fun hh => ?_
    have := HE5.out.oLt _ hh
    omega
  · have h5 := HL5.out.1.flt (.inl hk)
    exact (HL8.out.2 k (.inl (.inl (.inl hk)))).trans ((HV.out.2.2.2.block k (Nat.lt_of_lt_of_le h5 HZ6.out.1.size)).trans ((HZ6.out.1.block k h5).trans ((HL5.out.2 k (.inl hk)).trans (HB4.out.block k (HS.out.flt hk)))))
end Go.Proofs.YteobfgmkajddfaaGreatDoor

namespace Go.Sat
open Go Go.RowKit
theorem range_of {w : World} {b : Nat} {L : List Value} {t : TypeId} {fr : Nat × Nat} (h : w.heap[b]? = some (.cells L.toArray t fr)) : w.rangeAt b 0 L := fun j v hj => by
  rw [Nat.zero_add]
  exact cell_of h (by simpa using hj)
theorem run_storeVar_list {P : Program} {w : World} {b : Nat} {t ty : TypeId} {cs : Array Value} {L : List Value} (h : w.heap[b]? = some (.cells cs t (0, 0))) (hl : cs.size = L.length) (hi : (P.info? ty).map (·.size) = some L.length) (h1 : ∀ v ∈ L, v.oneCell' = true) :
    ∃ w', (storeVar ty ⟨b, 0, none⟩ (.agg L.toArray)).run P w = .ok () w' ∧ w'.heap[b]? = some (.cells L.toArray t (0, 0)) ∧ Chg (fun k => k = b) w w' := by
  refine ⟨w.setRow b L.toArray, run_storeVar_row w b t ty cs L.toArray h (by simpa using hi) (by simpa using hl) (all_oneCell_toArray h1), ?_, rfl, rfl, rfl, ?_, fun k hk hne => ?_⟩
  · simp only [World.setRow]
    rw [Array.getElem?_modify, if_pos rfl, h]
    rfl
  · simp [World.setRow]
  · simp only [World.setRow]
    rw [Array.getElem?_modify, if_neg fun e => hne e.symm]
section
variable {P : Program} {ops : Array Oper} {rest : List Oper} {op : Oper} {a : Act} {w : World} {Q : Exit → Act → World → Prop}
/-- A whole struct is loaded. -/
theorem bload (hw : Region.wanted op (yielded ops a.tmps) = true) (ty : TypeId) (x : Operand) (ho : op.op = .load ty x) (b : Nat) (hx : a.eval x = .pointer (some ⟨b, 0, none⟩)) {L : List Value} {t : TypeId} {fr : Nat × Nat} (hb : w.heap[b]? = some (.cells L.toArray t fr)) {d : TypeDesc}
    (hu : P.underlying ty = some d) (hd : d.isRow = true) (hi : (P.info? ty).map (·.size) = some L.length) (h : wpList P ops Q rest (a.put op.dst (.agg L.toArray)) w) : wpList P ops Q (op :: rest) a w :=
  BigFrame.wpList_want hw fun _ hK => wp_load_mid ty x ho b 0 hx L d (range_of hb) hu hd hi (hK _ _ h)
/-- A whole struct is stored. -/
theorem bstore (hw : Region.wanted op (yielded ops a.tmps) = true) (ty : TypeId) (x y : Operand) (ho : op.op = .store ty x y) (b : Nat) (hx : a.eval x = .pointer (some ⟨b, 0, none⟩)) {L : List Value} (hy : a.eval y = .agg L.toArray) {cs : Array Value} {t : TypeId} (hb : w.heap[b]? = some (.cells cs t (0, 0)))
    (hl : cs.size = L.length) (hi : (P.info? ty).map (·.size) = some L.length) (h1 : ∀ v ∈ L, v.oneCell' = true) (h : ∀ w', w'.heap[b]? = some (.cells L.toArray t (0, 0)) → Chg (fun k => k = b) w w' → wpList P ops Q rest (a.put op.dst undef) w') : wpList P ops Q (op :: rest) a w := by
  obtain ⟨w', hr, h2, h3⟩ := run_storeVar_list (P := P) (ty := ty) hb hl hi h1
  refine BigFrame.wpList_want hw fun K hK => ?_
  unfold Oper.wp execOp
  simp only [ho, hx, hy, Instr.storeAt, Instr.sureAddr, Sem.run_bind, Sem.run_pure, Result.andThen_ok, hr]
  exact hK _ _ (h w' h2 h3)
/-- A variable of a struct's type is made. -/
theorem balloc (hw : Region.wanted op (yielded ops a.tmps) = true) (ty : TypeId) (ho : op.op = .alloc ty) {z : Value} (hz : (zeroValue ty).run P w = .ok z w) (hs : z.cells.size ≠ 0)
    (h : ∀ w', w'.heap[w.heap.size]? = some (.cells z.cells ty (0, 0)) → Below w.heap.size w w' → w'.heap.size = w.heap.size + 1 → wpList P ops Q rest (a.put op.dst (.pointer (some ⟨w.heap.size, 0, none⟩))) w') : wpList P ops Q (op :: rest) a w := by
  refine BigFrame.wpList_want hw fun K hK => ?_
  unfold Oper.wp execOp
  simp only [ho, Instr.alloc, newVar, newRow, Sem.run_bind, Sem.run_pure, Result.andThen_ok, hz, run_newObj_alloc]
  exact hK _ _ (h _ (new_block w _) ((Below.refl _ _).alloc (Nat.le_refl _) _) (by simp))
/-- A value goes into a block of its own. -/
theorem bbox (hw : Region.wanted op (yielded ops a.tmps) = true) (ty : TypeId) (x : Operand) (ho : op.op = .box ty x) {L : List Value} (hx : a.eval x = .agg L.toArray)
    (h : ∀ w', w'.heap[w.heap.size]? = some (.cells L.toArray ty (0, 0)) → Below w.heap.size w w' → w'.heap.size = w.heap.size + 1 → wpList P ops Q rest (a.put op.dst (.pointer (some ⟨w.heap.size, 0, none⟩))) w') : wpList P ops Q (op :: rest) a w := by
  refine BigFrame.wpList_want hw fun K hK => ?_
  unfold Oper.wp execOp
  simp only [ho, hx, Instr.box, newVar, newRow, Value.cells, Sem.run_bind, Sem.run_pure, Result.andThen_ok, run_newObj_alloc]
  exact hK _ _ (h _ (new_block w _) ((Below.refl _ _).alloc (Nat.le_refl _) _) (by simp))
/-- A struct is built. -/
theorem bbuild (hw : Region.wanted op (yielded ops a.tmps) = true) (t : TypeId) (parts : Array (Nat × Operand)) (ho : op.op = .build t parts) {v : Value} (hr : (Instr.build t (parts.map fun p => (p.1, a.eval p.2))).run P w = .ok v w) (h : wpList P ops Q rest (a.put op.dst v) w) : wpList P ops Q (op :: rest) a w := by
  refine BigFrame.wpList_want hw fun K hK => ?_
  unfold Oper.wp execOp
  simp only [ho, Sem.run_bind, Sem.run_pure, Result.andThen_ok, hr]
  exact hK _ _ h
end
/-- A value goes into the cells from place o of a block on. -/
theorem bstoreAt {P : Program} {ops : Array Oper} {rest : List Oper} {op : Oper} {a : Act} {w : World} {Q : Exit → Act → World → Prop} (hw : Region.wanted op (yielded ops a.tmps) = true) (ty : TypeId) (x y : Operand) (ho : op.op = .store ty x y) (b o : Nat) (hx : a.eval x = .pointer (some ⟨b, o, none⟩)) {v : Value} (hy : a.eval y = v) (L : List Value) (hv : v.cells = L.toArray) {cs : Array Value} {t : TypeId} (hb : w.heap[b]? = some (.cells cs t (0, 0)))
    (hl : o + L.length ≤ cs.size) (hi : (P.info? ty).map (·.size) = some L.length) (h1 : ∀ v ∈ L, v.oneCell' = true) (h : ∀ w', w'.heap[b]? = some (.cells (cs.toList.take o ++ L ++ cs.toList.drop (o + L.length)).toArray t (0, 0)) → Chg (fun k => k = b) w w' → wpList P ops Q rest (a.put op.dst undef) w') : wpList P ops Q (op :: rest) a w := by
  have hr := run_storeCells_at P b o t L 0 cs w hb (by simpa using hl) h1
  rw [Nat.add_zero] at hr
  have hs : (storeVar ty ⟨b, o, none⟩ v).run P w = .ok () (w.setRow b (cs.toList.take o ++ L ++ cs.toList.drop (o + L.length)).toArray) := by
    cases hq : P.info? ty with
    | none => simp [hq] at hi
    | some i =>
      have hz : i.size = L.length := by simpa [hq] using hi
      simp [storeVar, sizeOf, typeInfo, hq, hv, hz, hr]
  refine BigFrame.wpList_want hw fun K hK => ?_
  unfold Oper.wp execOp
  simp only [ho, hx, hy, Instr.storeAt, Instr.sureAddr, Sem.run_bind, Sem.run_pure, Result.andThen_ok, hs]
  refine hK _ _ (h _ ?_ ⟨rfl, rfl, rfl, ?_, fun k hk hne => ?_⟩)
  · simp only [World.setRow]
    rw [Array.getElem?_modify, if_pos rfl, hb]
    rfl
  · simp [World.setRow]
  · simp only [World.setRow]
    rw [Array.getElem?_modify, if_neg fun e => hne e.symm]
theorem set_blockL {w : World} {b : Nat} {L : List Value} {t : TypeId} (h : w.heap[b]? = some (.cells L.toArray t (0, 0))) (i : Nat) (v : Value) : (w.setCell ⟨b, i, none⟩ v).heap[b]? = some (.cells (L.set i v).toArray t (0, 0)) := by
  have := set_block h i v
  simpa using this
/-- A whole struct's load yields its cells. -/
theorem yload {P : Program} {o : Oper} {ev : Operand → Value} {w : World} (ty : TypeId) (x : Operand) (ho : o.op = .load ty x) {b : Nat} (hx : ev x = .pointer (some ⟨b, 0, none⟩)) {L : List Value} {t : TypeId} {fr : Nat × Nat} (hb : w.heap[b]? = some (.cells L.toArray t fr)) {d : TypeDesc}
    (hu : P.underlying ty = some d) (hd : d.isRow = true) (hi : (P.info? ty).map (·.size) = some L.length) : (execOp ev o).run P w = .ok (.value (.agg L.toArray)) w := by
  unfold execOp
  simp only [ho, hx, Instr.loadAt, Instr.sureAddr, Sem.run_bind, Sem.run_pure, Result.andThen_ok, run_loadVar_mid w b 0 ty L d (range_of hb) hu hd hi]
end Go.Sat

namespace Go.Proofs.YteobfgmkajddfaaGreatDoor
open Go.RowKit Go.Sat Go.Maps

set_option maxHeartbeats 1000000 in
theorem isnum_calls (w : World) (n : Int) (h : 0 ≤ n ∧ n ≤ 1099511627776) : Calls Tryz.prog 136 #[.int .i64 n] w fun e w' => e = .returned (.bool true) ∧ w' = w := by
  obtain ⟨h1, h2⟩ := h
  go_enter Tryz.func136, Tryz.ntmps136
  go_wp2_with fail
  go_ret
  exact ⟨rfl, rfl⟩
/-- The word's cells. -/
def W7L (p : Option Addr) (c : Nat) : List Value := [.int .i64 7, .int .i64 3, .int .i64 2, .int .i64 1, .int .i64 4, .int .i64 0, .int .i64 0, .int .i64 0, .string ⟨#[]⟩, .string ⟨#[]⟩, .int .i64 0, .int .i64 0, .int .i64 0, .string ⟨#[]⟩, .string ⟨#[]⟩, .string ⟨#[]⟩, .string ⟨#[]⟩, .int .i64 0, .int .i64 0, .int .i64 0, .bool false, .int .i64 0, .int .i64 0, .int .i64 0, .int .i64 0, .int .i64 0, .int .i64 0, .int .i64 0, .int .i64 0, .int .i64 0, .slice none 0 0, .int .i64 0, .int .i64 0, .int .i64 0, .int .i64 0, .string ⟨#[]⟩, .slice p 4 c]
def PlL : List Value := [.int .i64 3, .int .i64 2, .int .i64 1, .int .i64 4, .int .i64 0, .int .i64 0, .int .i64 0, .string ⟨#[]⟩, .string ⟨#[]⟩, .int .i64 0, .int .i64 0, .int .i64 0, .string ⟨#[]⟩, .string ⟨#[]⟩, .string ⟨#[]⟩, .string ⟨#[]⟩, .int .i64 0, .int .i64 0, .int .i64 0, .bool false, .int .i64 0, .int .i64 0, .int .i64 0, .int .i64 0, .int .i64 0, .int .i64 0, .int .i64 0, .int .i64 0, .int .i64 0, .int .i64 0, .int .i64 0, .string ⟨#[]⟩]
set_option maxRecDepth 100000 in
set_option maxHeartbeats 4000000 in
theorem zoned_calls (w : World) (p : Option Addr) (c : Nat) : Calls Tryz.prog 141 #[.agg (W7L p c).toArray] w (RetB true w) := by
  have HB := Lib.hid (box_below w (.cells (W7L p c).toArray 75 (0, 0)))
  have hN := new_block w (.cells (W7L p c).toArray 75 (0, 0))
  have c1 := cell_of hN (i := 1) (v := .int .i64 3) rfl
  have c2 := cell_of hN (i := 2) (v := .int .i64 2) rfl
  have c3 := cell_of hN (i := 3) (v := .int .i64 1) rfl
  have HN := Lib.hid (fun W => isnum_calls W 1 (by decide))
  clear hN
  go_enter Tryz.func141, Tryz.ntmps141
  go_wp2_with fail
  refine (HN.out _).mono ?_
  rintro e w2 ⟨rfl, rfl⟩
  go_wp2_with fail
  go_ret
  exact ⟨rfl, HB.out⟩
theorem toList0 : (⟨#[]⟩ : ByteArray).toList = [] := by
  unfold ByteArray.toList ByteArray.toList.loop
  rfl
theorem isSpan0 : isSpan ⟨#[]⟩ ⟨#[]⟩ = true := by
  unfold isSpan
  rw [toList0]
  rfl
set_option maxRecDepth 100000 in
set_option maxHeartbeats 4000000 in
theorem iscopy_calls (w : World) (p : Option Addr) (c : Nat) : Calls Tryz.prog 140 #[.agg (W7L p c).toArray] w (RetB true w) := by
  have HB := Lib.hid (box_below w (.cells (W7L p c).toArray 75 (0, 0)))
  have HN := Lib.hid (new_block w (.cells (W7L p c).toArray 75 (0, 0)))
  have HZ := Lib.hid (fun W => zoned_calls W p c)
  have HS := Lib.hid (fun W => spanis_calls W ⟨#[]⟩ ⟨#[]⟩ (by decide) (by decide))
  rw [isSpan0] at HS
  go_enter Tryz.func140, Tryz.ntmps140
  go_wp2_with (refine bload rfl 75 (.tmp 1) rfl w.heap.size rfl (L := (W7L p c)) HN.out Tryz.underlying75 rfl (by kernel_rfl) ?_)
  refine (HZ.out _).mono ?_
  rintro e w2 ⟨rfl, hb⟩
  have hH := (hb.block _ (lt_of_block HN.out)).trans HN.out
  have HB2 := Lib.hid (HB.out.trans (hb.mono HB.out.size))
  have c4 := cell_of hH (i := 4) (v := .int .i64 4) rfl
  have c5 := cell_of hH (i := 5) (v := .int .i64 0) rfl
  have c8 := cell_of hH (i := 8) (v := .string ⟨#[]⟩) rfl
  have c9 := cell_of hH (i := 9) (v := .string ⟨#[]⟩) rfl
  have c36 := cell_of hH (i := 36) (v := .slice p 4 c) rfl
  clear hb hH
  go_wp2_with fail
  refine (HS.out _).mono ?_
  rintro e w3 ⟨rfl, hw3⟩
  have HB3 := Lib.hid (show Below w.heap.size w w3 from hw3 ▸ HB2.out.trans ((box_below w2 _).mono HB2.out.size))
  clear hw3
  go_wp2_with fail
  go_ret
  exact ⟨rfl, HB3.out⟩
end Go.Proofs.YteobfgmkajddfaaGreatDoor

namespace Go.Proofs.YteobfgmkajddfaaGreatDoor
open Go.RowKit Go.Sat Go.Maps

theorem plL_one : ∀ v ∈ PlL, v.oneCell' = true := by
  intro v hv
  unfold PlL at hv
  simp only [List.mem_cons, List.not_mem_nil, or_false] at hv
  rcases hv with rfl | rfl | rfl | rfl | rfl | rfl | rfl | rfl | rfl | rfl | rfl | rfl | rfl | rfl | rfl | rfl | rfl | rfl | rfl | rfl | rfl | rfl | rfl | rfl | rfl | rfl | rfl | rfl | rfl | rfl | rfl | rfl <;> rfl
set_option maxRecDepth 100000 in
set_option maxHeartbeats 8000000 in
theorem plain_calls (w : World) (p : Option Addr) (c : Nat) : Calls Tryz.prog 142 #[.agg (W7L p c).toArray] w fun e w' => e = .returned (.agg PlL.toArray) ∧ Below w.heap.size w w' := by
  go_enter Tryz.func142, Tryz.ntmps142
  go_wp2_with (first
    | (refine bbox rfl 75 (.tmp 0) rfl rfl ?_; intro w1 hn1 hb1 hs1; have H1 := Lib.hid (And.intro hn1 (And.intro hb1 hs1)); clear hn1 hb1 hs1)
    | (refine balloc rfl 221 rfl (Tryz.zeroValue221 _) (by decide) ?_; intro w2 hn2 hb2 hs2; have hk := (hb2.block w.heap.size (lt_of_block H1.out.1)).trans H1.out.1; have c1 := cell_of hk (i := 1) (v := .int .i64 3) rfl; have c2 := cell_of hk (i := 2) (v := .int .i64 2) rfl; have c3 := cell_of hk (i := 3) (v := .int .i64 1) rfl; have c4 := cell_of hk (i := 4) (v := .int .i64 4) rfl; have c5 := cell_of hk (i := 5) (v := .int .i64 0) rfl; have c6 := cell_of hk (i := 6) (v := .int .i64 0) rfl; have c7 := cell_of hk (i := 7) (v := .int .i64 0) rfl; have c8 := cell_of hk (i := 8) (v := .string ⟨#[]⟩) rfl; have c9 := cell_of hk (i := 9) (v := .string ⟨#[]⟩) rfl; have c10 := cell_of hk (i := 10) (v := .int .i64 0) rfl; have c11 := cell_of hk (i := 11) (v := .int .i64 0) rfl; have c12 := cell_of hk (i := 12) (v := .int .i64 0) rfl; have c13 := cell_of hk (i := 13) (v := .string ⟨#[]⟩) rfl; have c14 := cell_of hk (i := 14) (v := .string ⟨#[]⟩) rfl; have c15 := cell_of hk (i := 15) (v := .string ⟨#[]⟩) rfl; have c16 := cell_of hk (i := 16) (v := .string ⟨#[]⟩) rfl; have c17 := cell_of hk (i := 17) (v := .int .i64 0) rfl; have c18 := cell_of hk (i := 18) (v := .int .i64 0) rfl; have c19 := cell_of hk (i := 19) (v := .int .i64 0) rfl; have c20 := cell_of hk (i := 20) (v := .bool false) rfl; have c21 := cell_of hk (i := 21) (v := .int .i64 0) rfl; have c22 := cell_of hk (i := 22) (v := .int .i64 0) rfl; have c23 := cell_of hk (i := 23) (v := .int .i64 0) rfl; have c24 := cell_of hk (i := 24) (v := .int .i64 0) rfl; have c25 := cell_of hk (i := 25) (v := .int .i64 0) rfl; have c26 := cell_of hk (i := 26) (v := .int .i64 0) rfl; have c27 := cell_of hk (i := 27) (v := .int .i64 0) rfl; have c31 := cell_of hk (i := 31) (v := .int .i64 0) rfl; have c32 := cell_of hk (i := 32) (v := .int .i64 0) rfl; have c33 := cell_of hk (i := 33) (v := .int .i64 0) rfl; have c34 := cell_of hk (i := 34) (v := .int .i64 0) rfl; have c35 := cell_of hk (i := 35) (v := .string ⟨#[]⟩) rfl; have H2 := Lib.hid (And.intro hn2 (And.intro hb2 hs2)); clear hn2 hb2 hs2 hk)
    | (refine bbuild rfl 221 #[(0, .tmp 4), (1, .tmp 6), (2, .tmp 8), (3, .tmp 10), (4, .tmp 12), (5, .tmp 14), (6, .tmp 16), (7, .tmp 18), (8, .tmp 20), (9, .tmp 22), (10, .tmp 24)] rfl (v := .agg PlL.toArray) (by kernel_rfl) ?_; clear c1 c2 c3 c4 c5 c6 c7 c8 c9 c10 c11 c12 c13 c14 c15 c16 c17 c18 c19 c20 c21 c22 c23 c24 c25 c26 c27 c31 c32 c33 c34 c35)
    | (refine bstore rfl 221 (.tmp 2) (.tmp 25) rfl w1.heap.size rfl rfl H2.out.1 rfl (by kernel_rfl) plL_one ?_; intro w3 hn3 hc3; have H3 := Lib.hid (And.intro hn3 hc3); clear hn3 hc3))
  refine bodyPost_ret (results_cell_row rfl _ _ w1.heap.size _ _ (0, 0) _ rfl H3.out.1 Tryz.underlying221 rfl (by kernel_rfl)) rfl ?_
  have hb := H1.out.2.1.trans (H2.out.2.1.mono H1.out.2.1.size)
  exact ⟨rfl, (((Chg.of_below hb).mono fun _ _ e => e.elim : Chg (fun k => k = w1.heap.size) w w2).trans H3.out.2 fun _ _ e => e).below (Nat.le_refl _) fun k hk e => by have := H1.out.2.2; omega⟩
end Go.Proofs.YteobfgmkajddfaaGreatDoor

namespace Go.Proofs.YteobfgmkajddfaaGreatDoor
open Go.RowKit Go.Sat Go.Maps

def PzL : List Value := [.int .i64 0, .int .i64 0, .int .i64 0, .int .i64 0, .int .i64 0, .int .i64 0, .int .i64 0, .string ⟨#[]⟩, .string ⟨#[]⟩, .int .i64 0, .int .i64 0, .int .i64 0, .string ⟨#[]⟩, .string ⟨#[]⟩, .string ⟨#[]⟩, .string ⟨#[]⟩, .int .i64 0, .int .i64 0, .int .i64 0, .bool false, .int .i64 0, .int .i64 0, .int .i64 0, .int .i64 0, .int .i64 0, .int .i64 0, .int .i64 0, .int .i64 0, .int .i64 0, .int .i64 0, .int .i64 0, .string ⟨#[]⟩]
set_option maxRecDepth 100000 in
set_option maxHeartbeats 8000000 in
theorem wiremay_calls (w : World) (p : Option Addr) (c : Nat) : Calls Tryz.prog 64 #[.agg (W7L p c).toArray] w (RetB true w) := by
  go_enter Tryz.func64, Tryz.ntmps64
  go_wp2_with (refine bbox rfl 75 (.tmp 0) rfl rfl ?_; intro w1 hk hb1 hs1; have H1 := Lib.hid (And.intro hk (And.intro hb1 hs1)); have c0 := cell_of hk (i := 0) (v := .int .i64 7) rfl; have c28 := cell_of hk (i := 28) (v := .int .i64 0) rfl; have c29 := cell_of hk (i := 29) (v := .int .i64 0) rfl; have c30 := cell_of hk (i := 30) (v := .slice none 0 0) rfl; have c36 := cell_of hk (i := 36) (v := .slice p 4 c) rfl; clear hk hb1 hs1)
  go_quiet (fail)
  go_wp2_with (first
    | (refine balloc rfl 221 rfl (Tryz.zeroValue221 _) (by decide) ?_; intro w2 hn2 hb2 hs2; have hk := (hb2.block w.heap.size (lt_of_block H1.out.1)).trans H1.out.1; clear c0 c28 c29 c30 c36; have c0 := cell_of hk (i := 0) (v := .int .i64 7) rfl; have H2 := Lib.hid (And.intro hn2 (And.intro hk (And.intro (H1.out.2.1.trans (((below_drewN _ w1 _).trans hb2).mono H1.out.2.1.size)) hs2))); clear hn2 hb2 hs2 hk)
    | (refine bload rfl 75 (.tmp 1) rfl w.heap.size rfl H2.out.2.1 Tryz.underlying75 rfl (by kernel_rfl) ?_))
  refine (iscopy_calls w2 p c).mono ?_
  rintro e w3 ⟨rfl, hb3⟩
  have HB3 := Lib.hid (H2.out.2.2.1.trans (hb3.mono H2.out.2.2.1.size))
  have HK3 := Lib.hid ((hb3.block _ (lt_of_block H2.out.2.1)).trans H2.out.2.1)
  have HP3 := Lib.hid (show w3.heap[w1.heap.size]? = some (.cells PzL.toArray 221 (0, 0)) from (hb3.block _ (lt_of_block H2.out.1)).trans H2.out.1)
  clear hb3 c0
  go_wp2_with fail
  refine ord_start (fun w' : World => w'.heap[w.heap.size]? = some (.cells (W7L p c).toArray 75 (0, 0))) (n := 24) (by kernel_rfl) rfl HK3.out (fun hHeld => ?_)
  have HB4 := Lib.hid (HB3.out.trans ((below_drew w3).mono HB3.out.size))
  have HP4 := Lib.hid (show w3.drew.heap[w1.heap.size]? = _ from HP3.out)
  have hne : w.heap.size ≠ w1.heap.size := by have := lt_of_block H1.out.1; omega
  clear HB3 HK3 HP3
  generalize w3.drew = V0 at *
  refine Pl [0, 1, 2, 3, 4, 5, 6, 7, 8, 9, 10, 11, 12] ?_
  iterate 13 (refine Pd rfl (by intro w' hSw; have p1 := cell_of hSw (i := 1) (v := .int .i64 3) rfl; have p2 := cell_of hSw (i := 2) (v := .int .i64 2) rfl; have p3 := cell_of hSw (i := 3) (v := .int .i64 1) rfl; have p4 := cell_of hSw (i := 4) (v := .int .i64 4) rfl; have p5 := cell_of hSw (i := 5) (v := .int .i64 0) rfl; have p8 := cell_of hSw (i := 8) (v := .string ⟨#[]⟩) rfl; have p9 := cell_of hSw (i := 9) (v := .string ⟨#[]⟩) rfl; go_simp; try with_reducible rfl) ?_; simp only [Act.put, uA, uB, uC])
  refine Pn ?_
  refine ord_one 13 rfl (by kernel_rfl) (by rfl) (fun K hK => ?_)
  have z0 : V0.cell? ⟨w1.heap.size, 0, none⟩ = some (.int .i64 0) := cell_of HP4.out rfl
  have f0 := frozen_of HP4.out 0
  have hS1 := ((Chg.setCell V0 ⟨w1.heap.size, 0, none⟩ (.int .i64 3)).block w.heap.size (lt_of_block hHeld) hne).trans hHeld
  have HP5 := Lib.hid (set_blockL HP4.out 0 (.int .i64 3))
  have HB5 := Lib.hid (((Chg.of_below HB4.out).mono fun _ _ e => e.elim : Chg (fun k => k = w1.heap.size) w V0).trans (Chg.setCell V0 ⟨w1.heap.size, 0, none⟩ (.int .i64 3)) (fun _ _ e => e) |>.below (Nat.le_refl _) fun k hk e => by have := H1.out.2.1.size; omega)
  clear HP4 HB4
  go_wp2_with fail
  refine hK.out _ _ hS1 (fun hHeld => ?_)
  clear hK z0 f0 hS1
  have HP4 := HP5
  have HB4 := HB5
  clear HP5 HB5
  try simp only [Act.put, uA, uB, uC]
  generalize V0.setCell ⟨w1.heap.size, 0, none⟩ (.int .i64 3) = V1 at *
  refine Pl [14] ?_
  refine Pc rfl ?_
  simp only [Act.put, uA, uB, uC]
  refine Pn ?_
  refine ord_one 15 rfl (by kernel_rfl) (by rfl) (fun K hK => ?_)
  have z0 : V1.cell? ⟨w1.heap.size, 1, none⟩ = some (.int .i64 0) := cell_of HP4.out rfl
  have f0 := frozen_of HP4.out 1
  have hS1 := ((Chg.setCell V1 ⟨w1.heap.size, 1, none⟩ (.int .i64 2)).block w.heap.size (lt_of_block hHeld) hne).trans hHeld
  have HP5 := Lib.hid (set_blockL HP4.out 1 (.int .i64 2))
  have HB5 := Lib.hid (((Chg.of_below HB4.out).mono fun _ _ e => e.elim : Chg (fun k => k = w1.heap.size) w V1).trans (Chg.setCell V1 ⟨w1.heap.size, 1, none⟩ (.int .i64 2)) (fun _ _ e => e) |>.below (Nat.le_refl _) fun k hk e => by have := H1.out.2.1.size; omega)
  clear HP4 HB4
  go_wp2_with fail
  refine hK.out _ _ hS1 (fun hHeld => ?_)
  clear hK z0 f0 hS1
  have HP4 := HP5
  have HB4 := HB5
  clear HP5 HB5
  try simp only [Act.put, uA, uB, uC]
  generalize V1.setCell ⟨w1.heap.size, 1, none⟩ (.int .i64 2) = V2 at *
  refine Pl [16] ?_
  refine Pc rfl ?_
  simp only [Act.put, uA, uB, uC]
  refine Pn ?_
  refine ord_one 17 rfl (by kernel_rfl) (by rfl) (fun K hK => ?_)
  have z0 : V2.cell? ⟨w1.heap.size, 2, none⟩ = some (.int .i64 0) := cell_of HP4.out rfl
  have f0 := frozen_of HP4.out 2
  have hS1 := ((Chg.setCell V2 ⟨w1.heap.size, 2, none⟩ (.int .i64 1)).block w.heap.size (lt_of_block hHeld) hne).trans hHeld
  have HP5 := Lib.hid (set_blockL HP4.out 2 (.int .i64 1))
  have HB5 := Lib.hid (((Chg.of_below HB4.out).mono fun _ _ e => e.elim : Chg (fun k => k = w1.heap.size) w V2).trans (Chg.setCell V2 ⟨w1.heap.size, 2, none⟩ (.int .i64 1)) (fun _ _ e => e) |>.below (Nat.le_refl _) fun k hk e => by have := H1.out.2.1.size; omega)
  clear HP4 HB4
  go_wp2_with fail
  refine hK.out _ _ hS1 (fun hHeld => ?_)
  clear hK z0 f0 hS1
  have HP4 := HP5
  have HB4 := HB5
  clear HP5 HB5
  try simp only [Act.put, uA, uB, uC]
  generalize V2.setCell ⟨w1.heap.size, 2, none⟩ (.int .i64 1) = V3 at *
  refine Pl [18] ?_
  refine Pc rfl ?_
  simp only [Act.put, uA, uB, uC]
  refine Pn ?_
  refine ord_one 19 rfl (by kernel_rfl) (by rfl) (fun K hK => ?_)
  have z0 : V3.cell? ⟨w1.heap.size, 3, none⟩ = some (.int .i64 0) := cell_of HP4.out rfl
  have f0 := frozen_of HP4.out 3
  have hS1 := ((Chg.setCell V3 ⟨w1.heap.size, 3, none⟩ (.int .i64 4)).block w.heap.size (lt_of_block hHeld) hne).trans hHeld
  have HP5 := Lib.hid (set_blockL HP4.out 3 (.int .i64 4))
  have HB5 := Lib.hid (((Chg.of_below HB4.out).mono fun _ _ e => e.elim : Chg (fun k => k = w1.heap.size) w V3).trans (Chg.setCell V3 ⟨w1.heap.size, 3, none⟩ (.int .i64 4)) (fun _ _ e => e) |>.below (Nat.le_refl _) fun k hk e => by have := H1.out.2.1.size; omega)
  clear HP4 HB4
  go_wp2_with fail
  refine hK.out _ _ hS1 (fun hHeld => ?_)
  clear hK z0 f0 hS1
  have HP4 := HP5
  have HB4 := HB5
  clear HP5 HB5
  try simp only [Act.put, uA, uB, uC]
  generalize V3.setCell ⟨w1.heap.size, 3, none⟩ (.int .i64 4) = V4 at *
  refine Pl [20] ?_
  refine Pc rfl ?_
  simp only [Act.put, uA, uB, uC]
  refine Pn ?_
  refine ord_one 21 rfl (by kernel_rfl) (by rfl) (fun K hK => ?_)
  have z0 : V4.cell? ⟨w1.heap.size, 4, none⟩ = some (.int .i64 0) := cell_of HP4.out rfl
  have f0 := frozen_of HP4.out 4
  have hS1 := ((Chg.setCell V4 ⟨w1.heap.size, 4, none⟩ (.int .i64 0)).block w.heap.size (lt_of_block hHeld) hne).trans hHeld
  have HP5 := Lib.hid (set_blockL HP4.out 4 (.int .i64 0))
  have HB5 := Lib.hid (((Chg.of_below HB4.out).mono fun _ _ e => e.elim : Chg (fun k => k = w1.heap.size) w V4).trans (Chg.setCell V4 ⟨w1.heap.size, 4, none⟩ (.int .i64 0)) (fun _ _ e => e) |>.below (Nat.le_refl _) fun k hk e => by have := H1.out.2.1.size; omega)
  clear HP4 HB4
  go_wp2_with fail
  refine hK.out _ _ hS1 (fun hHeld => ?_)
  clear hK z0 f0 hS1
  have HP4 := HP5
  have HB4 := HB5
  clear HP5 HB5
  try simp only [Act.put, uA, uB, uC]
  generalize V4.setCell ⟨w1.heap.size, 4, none⟩ (.int .i64 0) = V5 at *
  refine Pl [22] ?_
  refine Pc rfl ?_
  simp only [Act.put, uA, uB, uC]
  refine Pn ?_
  refine ord_one 23 rfl (by kernel_rfl) (by rfl) (fun K hK => ?_)
  have z0 : V5.cell? ⟨w1.heap.size, 7, none⟩ = some (.string ⟨#[]⟩) := cell_of HP4.out rfl
  have z1 : V5.cell? ⟨w1.heap.size, 8, none⟩ = some (.string ⟨#[]⟩) := cell_of HP4.out rfl
  have f0 := frozen_of HP4.out 7
  have f1 := frozen_of HP4.out 8
  have hCC := (Chg.setCell V5 ⟨w1.heap.size, 7, none⟩ (.string ⟨#[]⟩)).trans (Chg.setCell (V5.setCell ⟨w1.heap.size, 7, none⟩ (.string ⟨#[]⟩)) ⟨w1.heap.size, 8, none⟩ (.string ⟨#[]⟩)) (fun _ _ e => e)
  have hS1 := (hCC.block w.heap.size (lt_of_block hHeld) hne).trans hHeld
  have HP5 := Lib.hid (set_blockL (set_blockL HP4.out 7 (.string ⟨#[]⟩)) 8 (.string ⟨#[]⟩))
  have HB5 := Lib.hid (((Chg.of_below HB4.out).mono fun _ _ e => e.elim : Chg (fun k => k = w1.heap.size) w V5).trans hCC (fun _ _ e => e) |>.below (Nat.le_refl _) fun k hk e => by have := H1.out.2.1.size; omega)
  clear HP4 HB4 hCC
  go_wp2_with fail
  refine hK.out _ _ hS1 (fun hHeld => ?_)
  clear hK z0 z1 f0 f1 hS1
  have HP4 := Lib.hid (show ((V5.setCell ⟨w1.heap.size, 7, none⟩ (.string ⟨#[]⟩)).setCell ⟨w1.heap.size, 8, none⟩ (.string ⟨#[]⟩)).heap[w1.heap.size]? = some (.cells PlL.toArray 221 (0, 0)) from HP5.out)
  have HB4 := HB5
  clear HP5 HB5
  generalize (V5.setCell ⟨w1.heap.size, 7, none⟩ (.string ⟨#[]⟩)).setCell ⟨w1.heap.size, 8, none⟩ (.string ⟨#[]⟩) = V6 at *
  refine wpAnyH_done (by kernel_rfl) ?_ _
  have HK4 := Lib.hid hHeld
  clear hHeld
  go_wp2_with fail
  refine ord_start (fun w' : World => w'.heap[w.heap.size]? = some (.cells (W7L p c).toArray 75 (0, 0)) ∧ w'.heap[w1.heap.size]? = some (.cells PlL.toArray 221 (0, 0))) (n := 24) (by kernel_rfl) rfl ⟨HK4.out, HP4.out⟩ (fun hHeld => ?_)
  have HB5 := Lib.hid (HB4.out.trans ((below_drew V6).mono HB4.out.size))
  have heq : ∀ W : World, (Op.equalIn 10000 221 (.agg PlL.toArray) (.agg PlL.toArray)).run Tryz.prog W = .ok true W := fun W => by kernel_rfl
  clear HB4 HK4 HP4
  generalize V6.drew = U0 at *
  refine Pl [0, 1, 2, 4] ?_
  iterate 2 (refine Pc rfl ?_; simp only [Act.put, uA, uB, uC])
  refine Pd rfl (fun w' hSw => yload 75 (.tmp 1) rfl rfl (L := (W7L p c)) hSw.1 Tryz.underlying75 rfl (by kernel_rfl)) ?_
  simp only [Act.put, uA, uB, uC]
  refine Pd rfl (fun w' hSw => yload 221 (.tmp 5) rfl rfl (L := PlL) hSw.2 Tryz.underlying221 rfl (by kernel_rfl)) ?_
  simp only [Act.put, uA, uB, uC]
  refine Pn ?_
  refine ord_one 3 rfl (by kernel_rfl) (by rfl) (fun K hK => ?_)
  have HC := Lib.hid (plain_calls U0 p c)
  go_wp2_with fail
  refine HC.out.mono ?_
  rintro e U1 ⟨rfl, hb⟩
  have hS1 : U1.heap[w.heap.size]? = some (.cells (W7L p c).toArray 75 (0, 0)) ∧ U1.heap[w1.heap.size]? = some (.cells PlL.toArray 221 (0, 0)) := ⟨(hb.block _ (lt_of_block hHeld.1)).trans hHeld.1, (hb.block _ (lt_of_block hHeld.2)).trans hHeld.2⟩
  have HB6 := Lib.hid (HB5.out.trans (hb.mono HB5.out.size))
  clear hb HB5 HC hHeld
  go_wp2_with fail
  refine hK.out _ _ hS1 (fun hHeld => ?_)
  clear hK hS1
  try simp only [Act.put, uA, uB, uC]
  refine Pl [5, 6, 7, 8, 9, 10, 11, 12, 13, 14, 15, 16, 17, 18, 19, 20, 21, 22, 23] ?_
  iterate 19 (refine Pd rfl (by intro w' hSw; have p36 := cell_of hSw.1 (i := 36) (v := .slice p 4 c) rfl; go_simp; try with_reducible rfl) ?_; simp only [Act.put, uA, uB, uC])
  refine Pn ?_
  refine wpAnyH_done (by kernel_rfl) ?_ _
  go_wp2_with fail
  go_ret
  exact ⟨rfl, HB6.out⟩
end Go.Proofs.YteobfgmkajddfaaGreatDoor

namespace Go.Proofs.YteobfgmkajddfaaGreatDoor
open Go.RowKit Go.Sat Go.Maps

def InO (v : Value) (n : Int) : Obj := .cells #[v, .int .i64 n] 304 (0, 0)
set_option maxHeartbeats 1000000 in
theorem begin_calls (w : World) : Calls Tryz.prog 143 #[.int .i64 4] w fun e w' => e = .returned (.tuple #[.pointer (some ⟨w.heap.size, 0, none⟩), .int .i64 0]) ∧ w' = w.alloc (InO (.slice none 0 0) 4) := by
  go_enter Tryz.func143, Tryz.ntmps143
  go_wp2_with fail
  go_ret2
  exact ⟨rfl, rfl⟩
def TakenP (w : World) (pb : Nat) (e : Ending) (w' : World) : Prop := e = .returned (.int .i64 4) ∧ ∃ q k, w'.heap[pb]? = some (InO (.slice q 4 k) 4) ∧ OwnB w' 5 (.slice q 4 k) [0, 0, 0, 0] ∧ (∀ j, (Value.slice q 4 k).ownBlock = some j → w.heap.size ≤ j) ∧ Chg (fun k => k = pb) w w'
set_option maxRecDepth 100000 in
set_option maxHeartbeats 4000000 in
theorem take4_calls {w : World} {pb : Nat} {p : Option Addr} {c : Nat} (hI : w.heap[pb]? = some (InO (.slice none 0 0) 4)) (hd : HasB w (.slice p 4 c) [0, 0, 0, 0]) :
    Calls Tryz.prog 145 #[.pointer (some ⟨pb, 0, none⟩), .int .i64 0, .slice p 4 c] w (TakenP w pb) := by
  obtain ⟨i0, hi, hz0, hz1, hz2⟩ := info_parts (show (Tryz.prog.info? 5).map (fun i => (i.zero, i.size, i.bytes)) = some (some (.int .u8 0), 1, 1) by kernel_rfl)
  have c0 : w.cell? ⟨pb, 0, none⟩ = some (.slice none 0 0) := cell_of hI rfl
  have c1 : w.cell? ⟨pb, 1, none⟩ = some (.int .i64 4) := cell_of hI rfl
  have HI := Lib.hid hI
  have HD := Lib.hid (show Holds w 1 (.slice p 4 c) 4 (bytesV [0, 0, 0, 0]) from hd)
  clear hI hd
  go_enter Tryz.func145, Tryz.ntmps145
  go_wp2_with (at_builtin; refine wpList_app _ rfl (.tmp 31) (.tmp 32) 39 rfl 5 i0 (.int .u8 0) 1 1 Tryz.underlying39 hi hz0 hz1 hz2 rfl (by decide) (.slice none 0 0) 0 [] rfl (OwnR.nil _ _ _) (.slice p 4 c) 4 _ rfl HD.out (bytesV_one _) (by unfold maxLen; omega) (by omega) ?_; intro v1 w1 hown1 hgrow1 hloc1; go_loud (obtain ⟨q1, k1, rfl⟩ := OwnR.shape hown1; have hk1 := (hgrow1.block pb (lt_of_block HI.out) (by simp [Value.ownBlock])).trans HI.out; have d0 := cell_of hk1 (i := 0) rfl; have f0 := frozen_of hk1 0; have HA := Lib.hid (And.intro hown1 (And.intro hgrow1 (And.intro hloc1 hk1))); clear hown1 hgrow1 hloc1 hk1 c0 c1))
  go_ret
  obtain ⟨hown, hgrow, hloc, hk⟩ := HA.out
  have hnew : ∀ j, (Value.slice q1 4 k1).ownBlock = some j → w.heap.size ≤ j := fun j hj => by
    rcases hloc with e | ⟨g, e, hg⟩
    · have e' : (Value.slice q1 4 k1).ownBlock = (Value.slice none 0 0).ownBlock := e
      rw [hj] at e'
      cases e'
    · have e' : (Value.slice q1 4 k1).ownBlock = some g := e
      rw [hj] at e'
      cases e'
      exact hg
  refine ⟨rfl, q1, k1, by simpa [InO] using set_block hk 0 (.slice q1 4 k1), OwnR.keep (show OwnB w1 5 (.slice q1 4 k1) [0, 0, 0, 0] from hown) fun j hj => ?_, hnew, ?_⟩
  · refine (Chg.setCell w1 ⟨pb, 0, none⟩ _).block j (OwnR.lt hown hj) fun e => ?_
    have h1 := hnew j hj
    have h2 := lt_of_block HI.out
    have h3 : j = pb := e
    omega
  · exact ((Chg.of_grown hgrow).mono fun _ _ e => (by cases e) : Chg (fun k => k = pb) w w1).trans (Chg.setCell w1 ⟨pb, 0, none⟩ _) fun _ _ e => e
set_option maxRecDepth 100000 in
set_option maxHeartbeats 4000000 in
theorem pwhole_calls {w : World} {pb : Nat} {q : Option Addr} {k : Nat} (hI : w.heap[pb]? = some (InO (.slice q 4 k) 4)) :
    Calls Tryz.prog 146 #[.pointer (some ⟨pb, 0, none⟩)] w (RetB true w) := by
  have c0 : w.cell? ⟨pb, 0, none⟩ = some (.slice q 4 k) := cell_of hI rfl
  have c1 : w.cell? ⟨pb, 1, none⟩ = some (.int .i64 4) := cell_of hI rfl
  clear hI
  go_enter Tryz.func146, Tryz.ntmps146
  go_wp2_with fail
  go_quiet (fail)
  go_wp2_with fail
  go_ret
  exact ⟨rfl, below_drewN _ _ _⟩
set_option maxRecDepth 100000 in
set_option maxHeartbeats 4000000 in
theorem pbytes_calls {w : World} {pb : Nat} {q : Option Addr} {k : Nat} (hI : w.heap[pb]? = some (InO (.slice q 4 k) 4)) (hd : OwnB w 5 (.slice q 4 k) [0, 0, 0, 0]) :
    Calls Tryz.prog 147 #[.pointer (some ⟨pb, 0, none⟩)] w (NewR w [0, 0, 0, 0]) := by
  have c0 : w.cell? ⟨pb, 0, none⟩ = some (.slice q 4 k) := cell_of hI rfl
  have HC := Lib.hid (clone_calls (OwnB.has hd) (by decide))
  clear hI hd
  go_enter Tryz.func147, Tryz.ntmps147
  go_wp2_with fail
  refine HC.out.mono ?_
  rintro e w2 ⟨v, rfl, hv, hn, hb⟩
  have HV := Lib.hid (And.intro hv (And.intro hn hb))
  clear hv hn hb
  go_wp2_with fail
  go_ret
  exact ⟨v, rfl, HV.out⟩
end Go.Proofs.YteobfgmkajddfaaGreatDoor

namespace Go.Proofs.YteobfgmkajddfaaGreatDoor
open Go.RowKit Go.Sat Go.Maps

/-- What is told back; no word. -/
def W8L : List Value := [.int .i64 8, .int .i64 3, .int .i64 2, .int .i64 1, .int .i64 0, .int .i64 4, .int .i64 0, .int .i64 0, .string ⟨#[]⟩, .string ⟨#[]⟩, .int .i64 0, .int .i64 0, .int .i64 0, .string ⟨#[]⟩, .string ⟨#[]⟩, .string ⟨#[]⟩, .string ⟨#[]⟩, .int .i64 0, .int .i64 0, .int .i64 0, .bool false, .int .i64 0, .int .i64 0, .int .i64 0, .int .i64 0, .int .i64 0, .int .i64 0, .int .i64 0, .int .i64 0, .int .i64 0, .slice none 0 0, .int .i64 0, .int .i64 0, .int .i64 0, .int .i64 0, .string ⟨#[]⟩, .slice none 0 0]
def W0L : List Value := [.int .i64 0, .int .i64 0, .int .i64 0, .int .i64 0, .int .i64 0, .int .i64 0, .int .i64 0, .int .i64 0, .string ⟨#[]⟩, .string ⟨#[]⟩, .int .i64 0, .int .i64 0, .int .i64 0, .string ⟨#[]⟩, .string ⟨#[]⟩, .string ⟨#[]⟩, .string ⟨#[]⟩, .int .i64 0, .int .i64 0, .int .i64 0, .bool false, .int .i64 0, .int .i64 0, .int .i64 0, .int .i64 0, .int .i64 0, .int .i64 0, .int .i64 0, .int .i64 0, .int .i64 0, .slice none 0 0, .int .i64 0, .int .i64 0, .int .i64 0, .int .i64 0, .string ⟨#[]⟩, .slice none 0 0]
theorem W8L_one : ∀ v ∈ W8L, v.oneCell' = true := by
  intro v hv
  unfold W8L at hv
  simp only [List.mem_cons, List.not_mem_nil, or_false] at hv
  rcases hv with rfl | rfl | rfl | rfl | rfl | rfl | rfl | rfl | rfl | rfl | rfl | rfl | rfl | rfl | rfl | rfl | rfl | rfl | rfl | rfl | rfl | rfl | rfl | rfl | rfl | rfl | rfl | rfl | rfl | rfl | rfl | rfl | rfl | rfl | rfl | rfl | rfl <;> rfl
theorem W0L_one : ∀ v ∈ W0L, v.oneCell' = true := by
  intro v hv
  unfold W0L at hv
  simp only [List.mem_cons, List.not_mem_nil, or_false] at hv
  rcases hv with rfl | rfl | rfl | rfl | rfl | rfl | rfl | rfl | rfl | rfl | rfl | rfl | rfl | rfl | rfl | rfl | rfl | rfl | rfl | rfl | rfl | rfl | rfl | rfl | rfl | rfl | rfl | rfl | rfl | rfl | rfl | rfl | rfl | rfl | rfl | rfl | rfl <;> rfl
theorem chg_one {w w1 w2 : World} {b : Nat} (h : Below w.heap.size w w1) (hc : Chg (fun k => k = b) w1 w2) (hb : w.heap.size ≤ b) : Below w.heap.size w w2 :=
  (((Chg.of_below h).mono fun _ _ e => e.elim : Chg (fun k => k = b) w w1).trans hc fun _ _ e => e).below (Nat.le_refl _) fun k hk e => by omega
set_option maxRecDepth 100000 in
set_option maxHeartbeats 8000000 in
theorem told_calls (w : World) (p : Option Addr) (c : Nat) : Calls Tryz.prog 65 #[.agg (W7L p c).toArray, .int .i64 8, .int .i64 1, .int .i64 4] w fun e w' => e = .returned (.agg W8L.toArray) ∧ Below w.heap.size w w' := by
  go_enter Tryz.func65, Tryz.ntmps65
  go_wp2_with (first
    | (refine bbox rfl 75 (.tmp 0) rfl rfl ?_; intro w1 hn1 hb1 hs1; have H1 := Lib.hid (And.intro hn1 (And.intro hb1 hs1)); clear hn1 hb1 hs1)
    | (refine balloc rfl 75 rfl (Tryz.zeroValue75 _) (by decide) ?_; intro w2 hn2 hb2 hs2; have hk := (hb2.block w.heap.size (lt_of_block H1.out.1)).trans H1.out.1; have c1 := cell_of hk (i := 1) (v := .int .i64 3) rfl; have c2 := cell_of hk (i := 2) (v := .int .i64 2) rfl; have H2 := Lib.hid (And.intro hn2 (And.intro hb2 hs2)); clear hn2 hb2 hs2 hk)
    | (refine bbuild rfl 75 #[(0, .tmp 9), (1, .tmp 11), (2, .tmp 13), (3, .tmp 14), (5, .tmp 15)] rfl (v := .agg W8L.toArray) (by kernel_rfl) ?_; clear c1 c2)
    | (refine bstore rfl 75 (.tmp 8) (.tmp 16) rfl w1.heap.size rfl rfl H2.out.1 rfl (by kernel_rfl) W8L_one ?_; intro w3 hn3 hc3; have H3 := Lib.hid (And.intro hn3 hc3); clear hn3 hc3))
  refine bodyPost_ret (results_cell_row rfl _ _ w1.heap.size _ _ (0, 0) _ rfl H3.out.1 Tryz.underlying75 rfl (by kernel_rfl)) rfl ?_
  exact ⟨rfl, chg_one (H1.out.2.1.trans (H2.out.2.1.mono H1.out.2.1.size)) H3.out.2 (by have := H1.out.2.2; omega)⟩
set_option maxRecDepth 100000 in
set_option maxHeartbeats 8000000 in
theorem back_calls {w : World} {b : Nat} {p : Option Addr} {c : Nat} (hb : w.heap[b]? = some (.cells (W7L p c).toArray 75 (0, 0))) :
    Calls Tryz.prog 144 #[.int .i64 4, .pointer (some ⟨b, 0, none⟩)] w fun e w' => e = .returned (.agg W8L.toArray) ∧ Below w.heap.size w w' := by
  have HT := Lib.hid (fun W => told_calls W p c)
  have HB := Lib.hid hb
  clear hb
  go_enter Tryz.func144, Tryz.ntmps144
  go_wp2_with (first
    | (refine balloc rfl 75 rfl (Tryz.zeroValue75 _) (by decide) ?_; intro w2 hn2 hb2 hs2; have hk := (hb2.block b (lt_of_block HB.out)).trans HB.out; have c3 := cell_of hk (i := 3) (v := .int .i64 1) rfl; have H2 := Lib.hid (And.intro hn2 (And.intro hb2 (And.intro hs2 hk))); clear hn2 hb2 hs2 hk)
    | (refine bload rfl 75 (.tmp 1) rfl b rfl (L := (W7L p c)) H2.out.2.2.2 Tryz.underlying75 rfl (by kernel_rfl) ?_))
  refine (HT.out _).mono ?_
  rintro e w3 ⟨rfl, hb3⟩
  have H3 := Lib.hid (And.intro ((hb3.block _ (lt_of_block H2.out.1)).trans H2.out.1) (H2.out.2.1.trans (hb3.mono H2.out.2.1.size)))
  clear hb3 c3 HT
  go_wp2_with (refine bstore rfl 75 (.tmp 3) (.tmp 8) rfl w.heap.size rfl rfl H3.out.1 rfl (by kernel_rfl) W8L_one ?_; intro w4 hn4 hc4; have H4 := Lib.hid (And.intro hn4 hc4); clear hn4 hc4)
  refine bodyPost_ret (results_cell_row rfl _ _ w.heap.size _ _ (0, 0) _ rfl H4.out.1 Tryz.underlying75 rfl (by kernel_rfl)) rfl ?_
  exact ⟨rfl, chg_one H3.out.2 H4.out.2 (Nat.le_refl _)⟩
end Go.Proofs.YteobfgmkajddfaaGreatDoor

namespace Go.Proofs.YteobfgmkajddfaaGreatDoor
open Go.RowKit Go.Sat Go.Maps

def TargetO (d : Nat) (a b c s : Int) (q : Option Addr) : Obj := .cells #[.pointer (some ⟨d, 0, none⟩), .int .i64 a, .int .i64 b, .int .i64 c, .int .i64 s, .string ⟨#[]⟩, .string ⟨#[]⟩, .pointer q] 127 (0, 0)
def H3 : HeadM := ⟨3, ⟨#[]⟩, ⟨#[]⟩, 2, 3⟩
/-- Something else has turned: blocks of F that are new since w; what is new may be in F' too. -/
theorem ZoneF.move {w w1 w2 : World} {z d : Nat} {h : HeadM} {pre : ByteArray} {D : DiskM} {M : LedM} {E : EcoR} {ev : Value} {dead : Bool} {F F' S : Nat → Prop} (hZ : ZoneF w w1 z d h pre D M E ev dead F) (hc : Chg S w1 w2) (hS : ∀ k, k < w1.heap.size → S k → F k ∧ w.heap.size ≤ k) (hF : ∀ k, F' k → (F k ∨ w1.heap.size ≤ k) ∧ k < w2.heap.size) : ZoneF w w2 z d h pre D M E ev dead F' := by
  obtain ⟨eb, l, vm, sm, tm, am, own, hL, hz, hE, h1, h2, h3, h4, h5, h6⟩ := hZ
  have hzl := lt_of_block hz
  have hS' : ∀ k, k < w1.heap.size → S k → F k := fun k hk hs => (hS k hk hs).1
  have hel : ∀ k, ev.ownBlock = some k → k < w1.heap.size := fun k hk => hL.flt (.inr (.inr (.inr hk)))
  refine ⟨eb, l, vm, sm, tm, am, own, hL.move hc (fun k hk hs => ⟨.inl (hS' k hk hs), (hS k hk hs).2⟩) (fun k hk => ?_), (hc.block z hzl fun hs => (h1 z (hS' z hzl hs)).1 rfl).trans hz, hE.keep (fun k hk => hc.block k (hE.oLt k hk) fun hs => hk (h1 k (hS' k (hE.oLt k hk) hs)).2.1) hc.size, fun k hk => ?_, h2, h3, h4, h5, h6⟩
  · rcases hk with hk | rfl | hk | hk
    · exact ⟨(hF k hk).1.imp .inl id, (hF k hk).2⟩
    · exact ⟨.inl (.inr (.inl rfl)), Nat.lt_of_lt_of_le hzl hc.size⟩
    · exact ⟨.inl (.inr (.inr (.inl hk))), Nat.lt_of_lt_of_le (hE.oLt k hk) hc.size⟩
    · exact ⟨.inl (.inr (.inr (.inr hk))), Nat.lt_of_lt_of_le (hel k hk) hc.size⟩
  · rcases (hF k hk).1 with hk | hk
    · exact h1 k hk
    · refine ⟨by omega, Classical.byContradiction fun hh => ?_, fun e => ?_⟩
      · have := hE.oLt k hh
        omega
      · have := hel k e
        omega
theorem results_t4 {P : Program} {fn : Func} {p u v z : Tmp} {ty : TypeId} (h : fn.results = #[.tmp u, .cell p ty, .tmp v, .tmp z]) (tmps : Array Value) (w : World) (g : Nat) (t : TypeId) (cs : Array Value) (fr : Nat × Nat) (d : TypeDesc)
    (hp : tmps.getD p undef = .pointer (some ⟨g, 0, none⟩)) (hg : w.heap[g]? = some (.cells cs t fr))
    (hu : P.underlying ty = some d) (hd : (match d with | .struct _ | .array _ _ => true | _ => false) = true) (hi : (P.info? ty).map (·.size) = some cs.size) :
    (results fn tmps).run P w = .ok (.tuple #[tmps.getD u undef, .agg cs, tmps.getD v undef, tmps.getD z undef]) w := by
  have h1 : (results fn tmps).run P w = ((asAddr (tmps.getD p undef)).run P w).andThen fun a w₁ => ((loadVar ty a).run P w₁).andThen fun x w₂ => .ok (.tuple #[tmps.getD u undef, x, tmps.getD v undef, tmps.getD z undef]) w₂ := by
    simp only [results, h]
    simp [Sem.run_bind, Result.andThen]
  rw [h1, hp]
  simp [asAddr, run_loadVar_row w g t ty cs fr d hg hu hd hi]
theorem H3_is : H3.is = true := by
  show (decide (1 ≤ (3 : Int)) && decide ((3 : Int) ≤ 1048576) && isSpan ⟨#[]⟩ ⟨#[]⟩ && decide (1 ≤ (2 : Int)) && decide ((2 : Int) ≤ 1099511627776) && decide (1 ≤ (3 : Int)) && decide ((3 : Int) ≤ 3)) = true
  rw [isSpan0]
  rfl
/-- What stays while a piece is taken. -/
structure CopS (w1 : World) (tb b2 : Nat) (p : Option Addr) (c : Nat) (T : Obj) (W : World) : Prop where
  k : W.heap[w1.heap.size]? = some (.cells (W7L p c).toArray 75 (0, 0))
  z : W.heap[b2]? = some (.cells W0L.toArray 75 (0, 0))
  t : W.heap[tb]? = some T
  chg : Chg (fun k => k = tb) w1 W
  lt1 : tb < w1.heap.size
  lt2 : w1.heap.size < b2
theorem CopS.chg' {w1 : World} {tb b2 : Nat} {p : Option Addr} {c : Nat} {T T' : Obj} {W W' : World} {S : Nat → Prop} (h : CopS w1 tb b2 p c T W) (hc : Chg S W W') (h1 : ¬ S w1.heap.size) (h2 : ¬ S b2) (ht : W'.heap[tb]? = some T') (h3 : ∀ k, k < w1.heap.size → S k → k = tb) : CopS w1 tb b2 p c T' W' :=
  ⟨(hc.block _ (lt_of_block h.k) h1).trans h.k, (hc.block _ (lt_of_block h.z) h2).trans h.z, ht, h.chg.trans hc h3, h.lt1, h.lt2⟩
theorem CopS.next {w1 : World} {tb b2 : Nat} {p : Option Addr} {c : Nat} {T : Obj} {W W' : World} (h : CopS w1 tb b2 p c T W) (hb : Below W.heap.size W W') : CopS w1 tb b2 p c T W' :=
  h.chg' (Chg.of_below hb) (fun e => e.elim) (fun e => e.elim) ((hb.block tb (lt_of_block h.t)).trans h.t) fun _ _ e => e.elim
theorem CopS.set {w1 : World} {tb b2 : Nat} {p : Option Addr} {c : Nat} {T T' : Obj} {W W' : World} (h : CopS w1 tb b2 p c T W) (hc : Chg (fun k => k = tb) W W') (ht : W'.heap[tb]? = some T') : CopS w1 tb b2 p c T' W' := by
  have h1 := h.lt1
  have h2 := h.lt2
  exact h.chg' hc (by omega) (by omega) ht fun _ _ e => e
theorem CopS.own {w1 : World} {tb b2 pb : Nat} {p : Option Addr} {c : Nat} {T : Obj} {W W' : World} (h : CopS w1 tb b2 p c T W) (hc : Chg (fun k => k = pb) W W') (hp : w1.heap.size < pb) (hp2 : b2 < pb) : CopS w1 tb b2 p c T W' := by
  have h1 := h.lt1
  exact h.chg' hc (by omega) (by omega) ((hc.block tb (lt_of_block h.t) (by omega)).trans h.t) fun k hk e => by omega
def WhL : List Value := [.int .i64 3, .int .i64 2, .int .i64 1, .int .i64 4, .string ⟨#[]⟩, .string ⟨#[]⟩]
theorem WhL_one : ∀ v ∈ WhL, v.oneCell' = true := by
  intro v hv
  unfold WhL at hv
  simp only [List.mem_cons, List.not_mem_nil, or_false] at hv
  rcases hv with rfl | rfl | rfl | rfl | rfl | rfl <;> rfl
theorem ptr_one (q : Option Addr) : ∀ v ∈ [(Value.pointer q)], v.oneCell' = true := by
  intro v hv
  simp only [List.mem_cons, List.not_mem_nil, or_false] at hv
  rw [hv]
  rfl
def CopR (w w1 : World) (d tb : Nat) (D : DiskM) (M : LedM) (F : Nat → Prop) (e : Ending) (w' : World) : Prop := ∃ z, e = .returned (.tuple #[.pointer (some ⟨z, 0, none⟩), .agg W8L.toArray, .bool true, .int .i64 0]) ∧ ZoneF w w' z d H3 (zpre 3) D M E0 (.slice none 0 0) false F ∧ ∀ k, F k → k ≠ tb → w'.heap[k]? = w1.heap[k]?
set_option maxRecDepth 100000 in
set_option maxHeartbeats 16000000 in
theorem copies_calls {w w1 : World} {d tb : Nat} {D D1 D2 : DiskM} {M1 M2 : LedM} {p : Option Addr} {c : Nat} {F : Nat → Prop} (hS : St w w1 d D F) (hFt : F tb) (hw : w.heap.size ≤ tb) (ht : w1.heap[tb]? = some (TargetO d 0 0 0 0 none)) (hx : HasB w1 (.slice p 4 c) [0, 0, 0, 0]) (hpt : ∀ k, (Value.slice p 4 c).ownBlock = some k → k ≠ tb)
    (ho : ledOpen D (nm (zpre 3)) = (D1, 0, M1)) (hwr : ledWrite (nm (zpre 3)) D1 M1 1 (zdata H3 [0, 0, 0, 0]) = ⟨D2, M2, 0, 0⟩) (hlen : (zdata H3 [0, 0, 0, 0]).length ≤ 140737488355328) :
    Calls Tryz.prog 66 #[.pointer (some ⟨tb, 0, none⟩), .agg (W7L p c).toArray, .pointer none] w1 (CopR w w1 d tb D2 M2 F) := by
  have HS := Lib.hid hS
  have HT := Lib.hid ht
  have Hx := Lib.hid hx
  have Hpt := Lib.hid hpt
  have Ho := Lib.hid (And.intro ho (And.intro hwr hlen))
  have Hw := Lib.hid hw
  clear hS ht hx hpt ho hwr hlen hw
  go_enter Tryz.func66, Tryz.ntmps66
  go_wp2_with (first
    | (refine bbox rfl 75 (.tmp 1) rfl rfl ?_; intro w2 hn1 hb1 hs1; have H2 := Lib.hid (And.intro hn1 (And.intro hb1 hs1)); clear hn1 hb1 hs1)
    | (refine balloc rfl 75 rfl (Tryz.zeroValue75 _) (by decide) ?_; intro w3 hn2 hb2 hs2; have hk := (hb2.block w1.heap.size (lt_of_block H2.out.1)).trans H2.out.1; have c1 := cell_of hk (i := 1) (v := .int .i64 3) rfl; have c2 := cell_of hk (i := 2) (v := .int .i64 2) rfl; have c3 := cell_of hk (i := 3) (v := .int .i64 1) rfl; have c4 := cell_of hk (i := 4) (v := .int .i64 4) rfl; have c8 := cell_of hk (i := 8) (v := .string ⟨#[]⟩) rfl; have c9 := cell_of hk (i := 9) (v := .string ⟨#[]⟩) rfl; have H3x := Lib.hid (And.intro hn2 (And.intro hk (And.intro (H2.out.2.1.trans (hb2.mono H2.out.2.1.size)) (And.intro hs2 H2.out.2.2)))); clear hn2 hb2 hs2 hk H2)
    | (refine bstore rfl 124 (.tmp 10) (.tmp 27) rfl w3.heap.size rfl rfl (new_block w3 _) rfl (by kernel_rfl) (L := WhL) WhL_one ?_; intro w4 hn4 hc4; have H4 := Lib.hid (And.intro hn4 hc4); clear hn4 hc4))
  have hb3 := H3x.out.2.2.1
  have hB4 : Below w1.heap.size w1 w4 := chg_one (hb3.trans ((box_below w3 _).mono hb3.size)) H4.out.2 hb3.size
  have HC4 := Lib.hid (show CopS w1 tb w2.heap.size p c (TargetO d 0 0 0 0 none) w4 from ⟨(H4.out.2.block _ (by have := lt_of_block H3x.out.2.1; simp; omega) (by have := lt_of_block H3x.out.2.1; omega)).trans (((box_below w3 _).block _ (lt_of_block H3x.out.2.1)).trans H3x.out.2.1),
    (H4.out.2.block _ (by have := lt_of_block H3x.out.1; simp; omega) (by have := lt_of_block H3x.out.1; omega)).trans (((box_below w3 _).block _ (lt_of_block H3x.out.1)).trans H3x.out.1), (hB4.block tb (lt_of_block HT.out)).trans HT.out, (Chg.of_below hB4).mono fun _ _ e => e.elim, lt_of_block HT.out, by have := H3x.out.2.2.2.2; omega⟩)
  have HW4 := Lib.hid (show w4.heap[w3.heap.size]? = some (.cells WhL.toArray 124 (0, 0)) from H4.out.1)
  have Hl3 := Lib.hid (show w2.heap.size < w3.heap.size from lt_of_block H3x.out.1)
  clear hb3 H3x H4 c1 c2 c3 c4 c8 c9 HT hB4
  refine ord_start (fun w' : World => w'.heap[w1.heap.size]? = some (.cells (W7L p c).toArray 75 (0, 0)) ∧ w'.heap[tb]? = some (TargetO d 0 0 0 0 none)) (n := 18) (by kernel_rfl) rfl ⟨HC4.out.k, HC4.out.t⟩ (fun hHeld => ?_)
  have HC5 := Lib.hid (HC4.out.next (below_drew w4))
  have HW5 := Lib.hid (show w4.drew.heap[w3.heap.size]? = _ from HW4.out)
  clear HC4 HW4
  generalize w4.drew = w5 at *
  refine Pl [0, 1, 2, 3, 4, 5, 6, 7, 8, 9, 10, 11, 12, 13, 14, 15, 16, 17] ?_
  iterate 10 (refine Pd rfl (by intro w' hSw; have p5 := cell_of hSw.1 (i := 5) (v := .int .i64 0) rfl; have p7 := cell_of hSw.2 (i := 7) (v := .pointer none) rfl; go_simp; try with_reducible rfl) ?_; simp only [Act.put, uA, uB, uC])
  iterate 6 (refine Ps rfl ?_; simp only [Act.put, uA, uB, uC])
  iterate 2 (refine Pc rfl ?_; simp only [Act.put, uA, uB, uC])
  refine Pn ?_
  refine wpAnyH_done (by kernel_rfl) ?_ _
  clear hHeld
  go_wp2_with (first
    | (refine bload rfl 124 (.tmp 10) rfl w3.heap.size rfl (L := WhL) HW5.out Tryz.underlying124 rfl (by kernel_rfl) ?_)
    | (refine bstoreAt rfl 124 (.tmp 49) (.tmp 47) rfl tb 1 rfl rfl WhL rfl HC5.out.t (by simp [WhL]) (by kernel_rfl) WhL_one ?_; intro w6 hT6 hC6; have HC6 := Lib.hid (HC5.out.set (T' := TargetO d 3 2 1 4 none) hC6 hT6); have HW6 := Lib.hid ((hC6.block _ (lt_of_block HW5.out) (by have := HC5.out.lt1; have := HC5.out.lt2; have := Hl3.out; omega)).trans HW5.out); have c4 := cell_of HC6.out.k (i := 4) (v := .int .i64 4) rfl; clear hT6 hC6 HC5 HW5))
  refine (begin_calls w6).mono ?_
  rintro e w7 ⟨rfl, hw7⟩
  have hb7 : Below w6.heap.size w6 w7 := hw7 ▸ box_below w6 _
  have HI7 := Lib.hid (show w7.heap[w6.heap.size]? = some (InO (.slice none 0 0) 4) from hw7 ▸ new_block w6 _)
  have HC7 := Lib.hid (HC6.out.next hb7)
  have HW7 := Lib.hid ((hb7.block _ (lt_of_block HW6.out)).trans HW6.out)
  have Hpb := Lib.hid (show w2.heap.size < w6.heap.size ∧ w1.heap.size < w6.heap.size ∧ w3.heap.size < w6.heap.size from ⟨by have := lt_of_block HW6.out; have := Hl3.out; omega, by have := lt_of_block HC6.out.k; omega, lt_of_block HW6.out⟩)
  clear hw7 hb7 HC6 HW6 c4
  go_wp2_with (refine bstoreAt rfl 125 (.tmp 58) (.tmp 55) rfl tb 7 rfl rfl [.pointer (some ⟨w6.heap.size, 0, none⟩)] rfl HC7.out.t (by simp) (by kernel_rfl) (ptr_one _) ?_; intro w8 hT8 hC8; have HC8 := Lib.hid (HC7.out.set (T' := TargetO d 3 2 1 4 (some ⟨w6.heap.size, 0, none⟩)) hC8 hT8); have HW8 := Lib.hid ((hC8.block _ (lt_of_block HW7.out) (by have := HC7.out.lt1; have := Hpb.out; have := HC7.out.lt2; have := Hl3.out; omega)).trans HW7.out); have HI8 := Lib.hid ((hC8.block _ (lt_of_block HI7.out) (by have := HC7.out.lt1; have := Hpb.out; omega)).trans HI7.out); clear hT8 hC8 HC7 HW7 HI7)
  refine ord_start (fun w' : World => w'.heap[tb]? = some (TargetO d 3 2 1 4 (some ⟨w6.heap.size, 0, none⟩)) ∧ w'.heap[w3.heap.size]? = some (.cells WhL.toArray 124 (0, 0))) (n := 13) (by kernel_rfl) rfl ⟨HC8.out.t, HW8.out⟩ (fun hHeld => ?_)
  have HC9 := Lib.hid (HC8.out.next (below_drew w8))
  have HI9 := Lib.hid (show w8.drew.heap[w6.heap.size]? = _ from HI8.out)
  have hEq : ∀ W : World, (Op.equalIn 10000 124 (.agg #[.int .i64 3, .int .i64 2, .int .i64 1, .int .i64 4, .string ⟨#[]⟩, .string ⟨#[]⟩]) (.agg WhL.toArray)).run Tryz.prog W = .ok true W := fun W => by kernel_rfl
  clear HC8 HW8 HI8
  generalize w8.drew = w9 at *
  refine Pl [0, 1, 2, 3, 4, 5, 6, 7, 8, 9, 10, 11, 12] ?_
  iterate 9 (refine Pd rfl (by intro w' hSw; have p7 := cell_of hSw.1 (i := 7) (v := .pointer (some ⟨w6.heap.size, 0, none⟩)) rfl; go_simp; try with_reducible rfl) ?_; simp only [Act.put, uA, uB, uC])
  refine Pd rfl (by intro w' hSw; have z1 := cell_of hSw.1 (i := 1) rfl; have z2 := cell_of hSw.1 (i := 2) rfl; have z3 := cell_of hSw.1 (i := 3) rfl; have z4 := cell_of hSw.1 (i := 4) rfl; have z5 := cell_of hSw.1 (i := 5) rfl; have z6 := cell_of hSw.1 (i := 6) rfl; go_simp; try with_reducible rfl) ?_
  simp only [Act.put, uA, uB, uC]
  refine Pd rfl (fun w' hSw => yload 124 (.tmp 10) rfl rfl (L := WhL) hSw.2 Tryz.underlying124 rfl (by kernel_rfl)) ?_
  simp only [Act.put, uA, uB, uC]
  iterate 2 (refine Pc rfl ?_; simp only [Act.put, uA, uB, uC])
  refine Pn ?_
  refine wpAnyH_done (by kernel_rfl) ?_ _
  clear hHeld hEq
  have t7 := cell_of HC9.out.t (i := 7) (v := .pointer (some ⟨w6.heap.size, 0, none⟩)) rfl
  have c5 := cell_of HC9.out.k (i := 5) (v := .int .i64 0) rfl
  have c36 := cell_of HC9.out.k (i := 36) (v := .slice p 4 c) rfl
  have Htk := Lib.hid (take4_calls HI9.out (HasB.chg Hx.out HC9.out.chg fun k hk e => Hpt.out k hk e))
  go_wp2_with fail
  refine Htk.out.mono ?_
  rintro e w10 ⟨rfl, q, k, hI10, hO10, hn10, hC10⟩
  have HC10 := Lib.hid (HC9.out.own hC10 Hpb.out.2.1 Hpb.out.1)
  have HP10 := Lib.hid (And.intro hI10 hO10)
  clear hI10 hO10 hn10 hC10 t7 c5 c36 HC9 HI9 Htk
  have t7 := cell_of HC10.out.t (i := 7) (v := .pointer (some ⟨w6.heap.size, 0, none⟩)) rfl
  have HPw := Lib.hid (pwhole_calls HP10.out.1)
  go_wp2_with fail
  refine HPw.out.mono ?_
  rintro e w11 ⟨rfl, hb⟩
  have HC11 := Lib.hid (HC10.out.next hb)
  have HP11 := Lib.hid (And.intro ((hb.block _ (lt_of_block HP10.out.1)).trans HP10.out.1) (ownB_far HP10.out.2 hb))
  clear hb t7 HC10 HP10 HPw
  have t7 := cell_of HC11.out.t (i := 7) (v := .pointer (some ⟨w6.heap.size, 0, none⟩)) rfl
  have HPb := Lib.hid (pbytes_calls HP11.out.1 HP11.out.2)
  go_wp2_with fail
  refine HPb.out.mono ?_
  rintro e w12 ⟨v, rfl, hv, hvn, hb⟩
  obtain ⟨pv, cv, rfl, -⟩ := own_cap0 hv
  have HC12 := Lib.hid (HC11.out.next hb)
  have HV12 := Lib.hid (And.intro (show OwnB w12 5 (.slice pv 4 cv) [0, 0, 0, 0] from hv) (show ∀ j, (Value.slice pv 4 cv).ownBlock = some j → w11.heap.size ≤ j from hvn))
  have Hl11 := Lib.hid (show tb < w11.heap.size from lt_of_block HC11.out.t)
  clear hv hvn hb t7 HC11 HP11 HPb
  rw [show ([0, 0, 0, 0] : Bs).length = 4 from rfl]
  go_wp2_with (refine bstoreAt rfl 125 (.tmp 104) (.const (.pointer none)) rfl tb 7 rfl rfl [.pointer none] rfl HC12.out.t (by simp) (by kernel_rfl) (ptr_one _) ?_; intro w13 hT13 hC13; have HC13 := Lib.hid (HC12.out.set (T' := TargetO d 3 2 1 4 none) hC13 hT13); have HV13 := Lib.hid (has_own HV12.out.1 fun k hk => hC13.block k (OwnR.lt HV12.out.1 hk) (by have := HV12.out.2 k hk; have := Hl11.out; omega)); clear hT13 hC13 HC12 HV12)
  refine ord_start (fun w' : World => w'.heap[w1.heap.size]? = some (.cells (W7L p c).toArray 75 (0, 0)) ∧ w'.heap[tb]? = some (TargetO d 3 2 1 4 none)) (n := 20) (by kernel_rfl) rfl ⟨HC13.out.k, HC13.out.t⟩ (fun hHeld => ?_)
  have HC14 := Lib.hid (HC13.out.next (below_drew w13))
  have HV14 := Lib.hid (HasB.below HV13.out (below_drew w13))
  clear HC13 HV13
  generalize w13.drew = w14 at *
  refine Pl [0, 1, 2, 3, 4, 5, 6, 7, 8, 9, 10, 11, 12, 13] ?_
  iterate 14 (refine Pd rfl (by intro w' hSw; have z0 := cell_of hSw.2 (i := 0) (v := .pointer (some ⟨d, 0, none⟩)) rfl; have p1 := cell_of hSw.1 (i := 1) (v := .int .i64 3) rfl; have p2 := cell_of hSw.1 (i := 2) (v := .int .i64 2) rfl; have p3 := cell_of hSw.1 (i := 3) (v := .int .i64 1) rfl; have p8 := cell_of hSw.1 (i := 8) (v := .string ⟨#[]⟩) rfl; have p9 := cell_of hSw.1 (i := 9) (v := .string ⟨#[]⟩) rfl; go_simp; try with_reducible rfl) ?_; simp only [Act.put, uA, uB, uC])
  refine Pn ?_
  refine ord_one 14 rfl (by kernel_rfl) (by rfl) (fun K hK => ?_)
  have hSt : St w w14 d D (fun k => F k ∨ k = w1.heap.size ∨ k = w2.heap.size) := HS.out.move HC14.out.chg (fun k _ e => ⟨e ▸ hFt, by have := Hw.out; omega⟩) fun k hk => by
    have h1 := lt_of_block HC14.out.k
    have h2 := lt_of_block HC14.out.z
    have h3 := HC14.out.lt1
    have h4 := HC14.out.lt2
    rcases hk with hk | rfl | rfl
    · exact ⟨.inl hk, by have := HS.out.flt hk; omega⟩
    · exact ⟨.inr (Nat.le_refl _), h1⟩
    · exact ⟨.inr (by omega), h2⟩
  have HM := Lib.hid (make0_calls hSt H3 H3_is 3 rfl (by decide) 1 (by decide) HV14.out Ho.out.1 Ho.out.2.1 Ho.out.2.2)
  clear hSt
  go_wp2_with fail
  refine HM.out.mono ?_
  rintro e w15 ⟨z, rfl, hZ, hsame⟩
  have HZ15 := Lib.hid hZ
  have hS15 : w15.heap[w1.heap.size]? = some (.cells (W7L p c).toArray 75 (0, 0)) ∧ w15.heap[tb]? = some (TargetO d 3 2 1 4 none) := ⟨(hsame _ (.inr (.inl rfl))).trans HC14.out.k, (hsame _ (.inl hFt)).trans HC14.out.t⟩
  have HX15 := Lib.hid (And.intro hS15.1 ((hsame _ (.inr (.inr rfl))).trans HC14.out.z))
  have Hlt := Lib.hid (And.intro HC14.out.lt1 HC14.out.lt2)
  have HF15 := Lib.hid (show ∀ k, F k → k ≠ tb → w15.heap[k]? = w1.heap[k]? from fun k hk hne => (hsame k (.inl hk)).trans (HC14.out.chg.block k (HS.out.flt hk) hne))
  clear hZ hsame HC14 HV14 HM hHeld
  go_wp2_with fail
  refine hK.out _ _ hS15 (fun hHeld => ?_)
  clear hK hS15
  try simp only [Act.put, uA, uB, uC]
  refine Pl [15, 16, 17, 18, 19] ?_
  iterate 5 (refine Pc rfl ?_; simp only [Act.put, uA, uB, uC])
  refine Pn ?_
  refine wpAnyH_done (by kernel_rfl) ?_ _
  have c4 := cell_of HX15.out.1 (i := 4) (v := .int .i64 4) rfl
  have HBk := Lib.hid (back_calls HX15.out.1)
  go_wp2_with fail
  refine HBk.out.mono ?_
  rintro e w16 ⟨rfl, hb⟩
  have HX16 := Lib.hid (And.intro ((hb.block _ (lt_of_block HX15.out.2)).trans HX15.out.2) hb)
  clear hb c4 HBk
  go_wp2_with (refine bstore rfl 75 (.tmp 7) (.tmp 131) rfl w2.heap.size rfl rfl HX16.out.1 rfl (by kernel_rfl) W8L_one ?_; intro w17 hn17 hc17; have H17 := Lib.hid (And.intro hn17 hc17); clear hn17 hc17)
  (try simp only [Exit.inBlock, Exit.then])
  refine bodyPost_ret (results_t4 (p := 7) (u := 6) (v := 8) (z := 9) rfl _ _ w2.heap.size _ _ (0, 0) _ rfl H17.out.1 Tryz.underlying75 rfl (by kernel_rfl)) rfl ?_
  have hC : Chg (fun k => k = w2.heap.size) w15 w17 := ((Chg.of_below HX16.out.2).mono fun _ _ e => e.elim).trans H17.out.2 fun _ _ e => e
  have hlo := HS.out.below.size
  exact ⟨z, rfl, HZ15.out.move hC (fun k _ e => ⟨.inr (.inr e), by have := Hlt.out; omega⟩) fun k hk => ⟨.inl (.inl hk), by have := HS.out.flt hk; have := lt_of_block HX15.out.1; have := hC.size; omega⟩, fun k hk hne => (hC.block k (by have := HS.out.flt hk; have := lt_of_block HX15.out.1; omega) (by have := HS.out.flt hk; have := Hlt.out; omega)).trans (HF15.out k hk hne)⟩
end Go.Proofs.YteobfgmkajddfaaGreatDoor

namespace Go.Proofs.YteobfgmkajddfaaGreatDoor
open Go.RowKit Go.Sat Go.Maps

set_option maxHeartbeats 1000000 in
theorem tnew_calls (w : World) (d : Nat) : Calls Tryz.prog 69 #[.pointer (some ⟨d, 0, none⟩)] w fun e w' => e = .returned (.pointer (some ⟨w.heap.size, 0, none⟩)) ∧ w' = w.alloc (TargetO d 0 0 0 0 none) := by
  go_enter Tryz.func69, Tryz.ntmps69
  go_wp2_with fail
  go_ret
  exact ⟨rfl, rfl⟩
set_option maxHeartbeats 1000000 in
theorem tstop_nil (w : World) : Calls Tryz.prog 27 #[.pointer none] w fun e w' => e = .returned (.tuple #[]) ∧ w' = w := by
  go_enter Tryz.func27, Tryz.ntmps27
  go_wp2_with fail
  go_end0
  exact ⟨rfl, rfl⟩
set_option maxRecDepth 100000 in
set_option maxHeartbeats 4000000 in
theorem zhead_nil (w : World) : Calls Tryz.prog 20 #[.pointer none] w fun e w' => e = .returned (.agg #[.int .i64 0, .string ⟨#[]⟩, .string ⟨#[]⟩, .int .i64 0, .int .i64 0]) ∧ Below w.heap.size w w' := by
  have hN := new_block w (.cells #[.int .i64 0, .string ⟨#[]⟩, .string ⟨#[]⟩, .int .i64 0, .int .i64 0] 35)
  have HB := Lib.hid (box_below w (.cells #[.int .i64 0, .string ⟨#[]⟩, .string ⟨#[]⟩, .int .i64 0, .int .i64 0] 35))
  go_enter Tryz.func20, Tryz.ntmps20
  go_wp2_with (refine bstoreAt rfl 35 (.tmp 2) (.tmp 5) rfl w.heap.size 0 rfl rfl [.int .i64 0, .string ⟨#[]⟩, .string ⟨#[]⟩, .int .i64 0, .int .i64 0] rfl hN (by simp) (by kernel_rfl) (by intro v hv; simp only [List.mem_cons, List.not_mem_nil, or_false] at hv; rcases hv with rfl | rfl | rfl | rfl | rfl <;> rfl) ?_; intro w2 h2 hc2; have H2 := Lib.hid (And.intro h2 hc2); clear h2 hc2)
  refine bodyPost_ret (results_cell_row rfl _ _ w.heap.size _ _ (0, 0) _ rfl H2.out.1 Tryz.underlying35 rfl (by kernel_rfl)) rfl ?_
  exact ⟨rfl, chg_one HB.out H2.out.2 (Nat.le_refl _)⟩
set_option maxRecDepth 100000 in
set_option maxHeartbeats 4000000 in
theorem zhead_calls {w : World} {z eb l : Nat} {h : HeadM} {ev : Value} {dead : Bool} (hz : w.heap[z]? = some (ZoneO h eb l ev dead)) : Calls Tryz.prog 20 #[.pointer (some ⟨z, 0, none⟩)] w fun e w' => e = .returned (.agg #[.int .i64 h.id, .string h.fr, .string h.tu, .int .i64 h.epoch, .int .i64 h.state]) ∧ Below w.heap.size w w' := by
  obtain ⟨id, fr, tu, ep, st⟩ := h
  have hN := new_block w (.cells #[.int .i64 0, .string ⟨#[]⟩, .string ⟨#[]⟩, .int .i64 0, .int .i64 0] 35)
  have hB := box_below w (.cells #[.int .i64 0, .string ⟨#[]⟩, .string ⟨#[]⟩, .int .i64 0, .int .i64 0] 35)
  have hz' := (hB.block z (lt_of_block hz)).trans hz
  have HB := Lib.hid hB
  have c0 := cell_of hz' (i := 0) (v := .int .i64 id) rfl
  have c1 := cell_of hz' (i := 1) (v := .string fr) rfl
  have c2 := cell_of hz' (i := 2) (v := .string tu) rfl
  have c3 := cell_of hz' (i := 3) (v := .int .i64 ep) rfl
  have c4 := cell_of hz' (i := 4) (v := .int .i64 st) rfl
  clear hz hB hz'
  dsimp only
  go_enter Tryz.func20, Tryz.ntmps20
  go_wp2_with (refine bstoreAt rfl 35 (.tmp 2) (.tmp 9) rfl w.heap.size 0 rfl rfl [.int .i64 id, .string fr, .string tu, .int .i64 ep, .int .i64 st] rfl hN (by simp) (by kernel_rfl) (by intro v hv; simp only [List.mem_cons, List.not_mem_nil, or_false] at hv; rcases hv with rfl | rfl | rfl | rfl | rfl <;> rfl) ?_; intro w2 h2 hc2; have H2 := Lib.hid (And.intro h2 hc2); clear h2 hc2)
  refine bodyPost_ret (results_cell_row rfl _ _ w.heap.size _ _ (0, 0) _ rfl H2.out.1 Tryz.underlying35 rfl (by kernel_rfl)) rfl ?_
  exact ⟨rfl, chg_one HB.out H2.out.2 (Nat.le_refl _)⟩
section
variable {w w1 : World} {z d : Nat} {h : HeadM} {pre : ByteArray} {D : DiskM} {M : LedM} {E : EcoR} {ev : Value} {dead : Bool} {F : Nat → Prop}
set_option maxHeartbeats 1000000 in
theorem zlast_calls (hZ : ZoneF w w1 z d h pre D M E ev dead F) {m : Nat} (hm : M.last = m) : Calls Tryz.prog 13 #[.pointer (some ⟨z, 0, none⟩)] w1 fun e w' => e = .returned (.int .i64 (m : Int)) ∧ ∃ q, w' = w1.drewN q := by
  obtain ⟨eb, l, vm, sm, tm, am, own, hL, hz, -⟩ := hZ
  have HL := Lib.hid (last_calls hL)
  rw [hm] at HL
  have c6 := cell_of hz (i := 6) (v := .pointer (some ⟨l, 0, none⟩)) rfl
  clear hL hz hm
  go_enter Tryz.func13, Tryz.ntmps13
  go_wp2_with fail
  refine HL.out.mono ?_
  rintro e w2 ⟨rfl, q, rfl⟩
  go_wp2_with fail
  go_ret
  exact ⟨rfl, q, rfl⟩
theorem ZoneF.next (hZ : ZoneF w w1 z d h pre D M E ev dead F) {w2 : World} (hb : Below w1.heap.size w1 w2) : ZoneF w w2 z d h pre D M E ev dead F :=
  hZ.move (Chg.of_below hb) (fun _ _ e => e.elim) fun k hk => ⟨.inl hk, by obtain ⟨_, _, _, _, _, _, _, hL, _⟩ := hZ; exact Nat.lt_of_lt_of_le (hL.flt (.inl hk)) hb.size⟩
theorem ZoneF.bel (hZ : ZoneF w w1 z d h pre D M E ev dead F) : Below w.heap.size w w1 := by
  obtain ⟨_, _, _, _, _, _, _, hL, _⟩ := hZ
  exact hL.bel
end
set_option maxRecDepth 100000 in
set_option maxHeartbeats 8000000 in
theorem hear_calls {w w1 : World} {d tb : Nat} {D D1 D2 : DiskM} {M1 M2 : LedM} {p : Option Addr} {c : Nat} (hS : St w w1 d D (fun k => k = tb)) (hw : w.heap.size ≤ tb) (ht : w1.heap[tb]? = some (TargetO d 0 0 0 0 none)) (hx : HasB w1 (.slice p 4 c) [0, 0, 0, 0]) (hpt : ∀ k, (Value.slice p 4 c).ownBlock = some k → k ≠ tb)
    (ho : ledOpen D (nm (zpre 3)) = (D1, 0, M1)) (hwr : ledWrite (nm (zpre 3)) D1 M1 1 (zdata H3 [0, 0, 0, 0]) = ⟨D2, M2, 0, 0⟩) (hlen : (zdata H3 [0, 0, 0, 0]).length ≤ 140737488355328) :
    Calls Tryz.prog 28 #[.pointer (some ⟨tb, 0, none⟩), .agg (W7L p c).toArray, .pointer none] w1 fun e w' => ∃ z, e = .returned (.tuple #[.pointer (some ⟨z, 0, none⟩), .agg W8L.toArray, .bool true, .int .i64 0]) ∧ ZoneF w w' z d H3 (zpre 3) D2 M2 E0 (.slice none 0 0) false NoF := by
  have HS := Lib.hid hS
  have HT := Lib.hid ht
  have Hx := Lib.hid (And.intro hx hpt)
  have Ho := Lib.hid (And.intro ho (And.intro hwr hlen))
  have Hw := Lib.hid hw
  have HM := Lib.hid (fun W => wiremay_calls W p c)
  have HH := Lib.hid (fun W => zhead_nil W)
  clear hS ht hx hpt ho hwr hlen hw
  go_enter Tryz.func28, Tryz.ntmps28
  go_wp2_with (first
    | (refine bbox rfl 75 (.tmp 1) rfl rfl ?_; intro w2 hn1 hb1 hs1; have H2 := Lib.hid (And.intro hn1 (And.intro hb1 hs1)); clear hn1 hb1 hs1)
    | (refine balloc rfl 75 rfl (Tryz.zeroValue75 _) (by decide) ?_; intro w3 hn2 hb2 hs2; have H3x := Lib.hid (And.intro hn2 (And.intro ((hb2.block w1.heap.size (lt_of_block H2.out.1)).trans H2.out.1) (And.intro (H2.out.2.1.trans (hb2.mono H2.out.2.1.size)) (show w1.heap.size < w2.heap.size by have := H2.out.2.2; omega)))); clear hn2 hb2 hs2 H2)
    | (refine bload rfl 75 (.tmp 4) rfl w1.heap.size rfl (L := (W7L p c)) H3x.out.2.1 Tryz.underlying75 rfl (by kernel_rfl) ?_))
  refine (HM.out _).mono ?_
  rintro e w4 ⟨rfl, hb⟩
  have H4 := Lib.hid (show w4.heap[w2.heap.size]? = some (.cells W0L.toArray 75 (0, 0)) ∧ w4.heap[w1.heap.size]? = some (.cells (W7L p c).toArray 75 (0, 0)) ∧ Below w1.heap.size w1 w4 from ⟨(hb.block _ (lt_of_block H3x.out.1)).trans H3x.out.1, (hb.block _ (lt_of_block H3x.out.2.1)).trans H3x.out.2.1, H3x.out.2.2.1.trans (hb.mono H3x.out.2.2.1.size)⟩)
  have Hlt := Lib.hid H3x.out.2.2.2
  clear hb H3x HM
  go_wp2_with fail
  refine (HH.out _).mono ?_
  rintro e w5 ⟨rfl, hb⟩
  have H5 := Lib.hid (show w5.heap[w2.heap.size]? = some (.cells W0L.toArray 75 (0, 0)) ∧ w5.heap[w1.heap.size]? = some (.cells (W7L p c).toArray 75 (0, 0)) ∧ Below w1.heap.size w1 w5 from ⟨(hb.block _ (lt_of_block H4.out.1)).trans H4.out.1, (hb.block _ (lt_of_block H4.out.2.1)).trans H4.out.2.1, H4.out.2.2.trans (hb.mono H4.out.2.2.size)⟩)
  clear hb H4 HH
  go_wp2_with (first
    | (refine balloc rfl 35 rfl (Tryz.zeroValue35 _) (by decide) ?_; intro w6 hn hb hs; have H6 := Lib.hid (And.intro hn (And.intro ((hb.block _ (lt_of_block H5.out.1)).trans H5.out.1) (And.intro ((hb.block _ (lt_of_block H5.out.2.1)).trans H5.out.2.1) (H5.out.2.2.trans (hb.mono H5.out.2.2.size))))); have Hl5 := Lib.hid (show w2.heap.size < w5.heap.size ∧ w1.heap.size < w5.heap.size from ⟨lt_of_block H5.out.1, lt_of_block H5.out.2.1⟩); clear hn hb hs H5)
    | (refine bstoreAt rfl 35 (.tmp 10) (.tmp 22) rfl w5.heap.size 0 rfl rfl [.int .i64 0, .string ⟨#[]⟩, .string ⟨#[]⟩, .int .i64 0, .int .i64 0] rfl H6.out.1 (by simp [Value.cells]) (by kernel_rfl) (by intro v hv; simp only [List.mem_cons, List.not_mem_nil, or_false] at hv; rcases hv with rfl | rfl | rfl | rfl | rfl <;> rfl) ?_; intro w7 h7 hc7; have H7 := Lib.hid (show w7.heap[w2.heap.size]? = some (.cells W0L.toArray 75 (0, 0)) ∧ w7.heap[w1.heap.size]? = some (.cells (W7L p c).toArray 75 (0, 0)) ∧ Below w1.heap.size w1 w7 from ⟨(hc7.block _ (lt_of_block H6.out.2.1) (by have := Hl5.out; omega)).trans H6.out.2.1, (hc7.block _ (lt_of_block H6.out.2.2.1) (by have := Hl5.out; omega)).trans H6.out.2.2.1, chg_one H6.out.2.2.2 hc7 (by have := Hl5.out; omega)⟩); clear h7 hc7 H6))
  refine ord_start (fun w' : World => w'.heap[w1.heap.size]? = some (.cells (W7L p c).toArray 75 (0, 0))) (n := 14) (by kernel_rfl) rfl H7.out.2.1 (fun hHeld => ?_)
  have H8 := Lib.hid (show w7.drew.heap[w2.heap.size]? = some (.cells W0L.toArray 75 (0, 0)) ∧ w7.drew.heap[w1.heap.size]? = some (.cells (W7L p c).toArray 75 (0, 0)) ∧ Below w1.heap.size w1 w7.drew from ⟨H7.out.1, H7.out.2.1, H7.out.2.2.trans ((below_drew w7).mono H7.out.2.2.size)⟩)
  clear H7
  generalize w7.drew = w8 at *
  refine Pl [0, 1, 2, 3, 4, 5, 6, 7, 8, 9, 10, 11, 12, 13] ?_
  iterate 7 (refine Pd rfl (by intro w' hSw; have p0 := cell_of hSw (i := 0) (v := .int .i64 7) rfl; go_simp; try with_reducible rfl) ?_; simp only [Act.put, uA, uB, uC])
  iterate 5 (refine Ps rfl ?_; simp only [Act.put, uA, uB, uC])
  iterate 2 (refine Pc rfl ?_; simp only [Act.put, uA, uB, uC])
  refine Pn ?_
  refine wpAnyH_done (by kernel_rfl) ?_ _
  clear hHeld
  have c0 := cell_of H8.out.2.1 (i := 0) (v := .int .i64 7) rfl
  have ht8 := (H8.out.2.2.block tb (lt_of_block HT.out)).trans HT.out
  have HC := Lib.hid (copies_calls (F := fun k => k = tb ∨ k = w2.heap.size) (HS.out.more H8.out.2.2 fun k hk => by
    rcases hk with rfl | rfl
    · exact ⟨.inl rfl, lt_of_block ht8⟩
    · exact ⟨.inr (by have := Hlt.out; omega), lt_of_block H8.out.1⟩) (.inl rfl) Hw.out ht8 (HasB.below Hx.out.1 H8.out.2.2) Hx.out.2 Ho.out.1 Ho.out.2.1 Ho.out.2.2)
  clear ht8
  go_wp2_with (refine bload rfl 75 (.tmp 4) rfl w1.heap.size rfl (L := (W7L p c)) H8.out.2.1 Tryz.underlying75 rfl (by kernel_rfl) ?_)
  refine HC.out.mono ?_
  rintro e w9 ⟨z, rfl, hZ, hs⟩
  have H9 := Lib.hid (And.intro hZ ((hs _ (.inr rfl) (by have := lt_of_block HT.out; have := Hlt.out; omega)).trans H8.out.1))
  clear hZ hs HC c0
  go_wp2_with (refine bstore rfl 75 (.tmp 7) (.tmp 72) rfl w2.heap.size rfl rfl H9.out.2 rfl (by kernel_rfl) W8L_one ?_; intro w10 hn hc; have H10 := Lib.hid (And.intro hn hc); clear hn hc)
  (try simp only [Exit.inBlock, Exit.then])
  refine bodyPost_ret (results_t4 (p := 7) (u := 6) (v := 8) (z := 9) rfl _ _ w2.heap.size _ _ (0, 0) _ rfl H10.out.1 Tryz.underlying75 rfl (by kernel_rfl)) rfl ?_
  have hlo := HS.out.below.size
  exact ⟨z, rfl, H9.out.1.move H10.out.2 (fun k _ e => ⟨.inr e, by have := Hlt.out; omega⟩) fun k hk => hk.elim⟩
end Go.Proofs.YteobfgmkajddfaaGreatDoor

namespace Go.Proofs.YteobfgmkajddfaaGreatDoor
open Go.RowKit Go.Sat Go.Maps

def b12' : Bs := [49, 50]
def b3' : Bs := [51]
def b123 : Bs := [49, 50, 51]
def Q0 : DiskM := DiskM.fresh 1000
def Q1 : DiskM := ⟨1000, [([97], ⟨frameN b123, (frameN b123).length⟩)], none⟩

theorem q1 : Q0.save (nm sA) [b12', b3'].flatten = (Q1, 0) :=
  save_all (D := Q0) (n := [97]) (l := b123) (ok_fresh 1000 (by decide)) (fun j h => by cases h) (by decide) (by decide) rfl (by decide) (by decide)

theorem q2 (k : Int) : Sat.get (nm sA) (Q1.crash k).files = some ⟨frameN b123, (frameN b123).length⟩ := get_crash_whole (D := Q1) (n := [97]) rfl k

end Go.Proofs.YteobfgmkajddfaaGreatDoor

namespace Go.Proofs.YteobfgmkajddfaaGreatDoor
open Go.RowKit Go.Sat Go.Maps

def zcells (y : Nat) : Array Value := madeCells #[.int .u8 0] y

theorem zmk (w : World) (o : Obj) {y : Nat} (hy : y ≤ 100) : (Instr.makeSlice 39 (.int .i64 (y : Int)) (.int .i64 (y : Int))).run Tryz.prog (w.alloc o) = .ok (.slice (some ⟨w.heap.size + 1, 0, none⟩) y y) ((w.alloc o).alloc (.cells (zcells y) 5)) := by
  obtain ⟨i0, hi, hz0, hz1, hz2⟩ := info_parts (show (Tryz.prog.info? 5).map (fun i => (i.zero, i.size, i.bytes)) = some (some (.int .u8 0), 1, 1) by kernel_rfl)
  have h := run_makeSlice (P := Tryz.prog) (w.alloc o) 39 5 i0 (.int .u8 0) Tryz.underlying39 hi hz0 .i64 .i64 (y : Int) (y : Int) (by omega) (by omega) (by rw [hz1]; omega) (by rw [hz2]; omega) (by omega)
  rw [h, hz1, Nat.mul_one, Int.toNat_natCast, World.size_alloc]
  rfl

end Go.Proofs.YteobfgmkajddfaaGreatDoor
