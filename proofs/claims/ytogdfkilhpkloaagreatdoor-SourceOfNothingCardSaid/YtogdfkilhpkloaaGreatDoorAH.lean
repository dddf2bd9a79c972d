/- ledger: Drop; a nil Ledger. (Printed by mkled8.py.) What a disk's steps leave where nothing stands in their way, and behind a burnt fuse (plain laws). What a disk holds that a ledger of the prefix "a" has written, and what it opens as (plain laws). What Append, Write and Crash leave on the disk of a ledger "a" (plain laws). What Write leaves on the disk of a ledger "a", and behind a crash (plain laws). Append and Write of a text that stands in the code; a row that is made a string; the contract of satrapylaw14.known: it is true. What a law does with a ledger beside Append and Write: the fuse, a reading, rows that were handed in, rows of its own. A ledger's files on a disk of which other files may stand (plain laws). zone.Make at an economy of nothing. The contracts of octet's Reader, with the set of blocks in which its bytes lie. (Printed by mkx.py out of the texts Rdr, RdrN.) octet: Reader.Nums (lines of the text JouY). econ.at. econ.tidies. econ.mint. Printed by mkmint.py. op.May. op.May of each kind. Printed by mkopz.py. op.May, of every request. econ.Peek of a client's request, where nothing was said yet. What op.Decode reads, step by step (plain). op.Encode. Printed by mkope.py. op.Decode of any bytes. econ.Apply of a mint that is new. A zone while it does a request: what lies where. zone: dies, tidies, where nothing is amiss. zone.Do of a mint that is new. zone: what a nil Zone answers. Printed by mknon.py. zone.Set of a head that is refused, or that is the zone's own. Are two heads alike? zone.reads: what a ledger's image has. piece.Out: bytes that go. wire: May at the word that the law's known tells. Printed by mkta.py. wire: plain of the word that the law's known tells. Printed by mktb.py. wire: May of the word that the law's known tells. Printed by mktc.py. piece: an In of four bytes that come at once. target: told, and the closure that tells back. Printed by mktd.py. target: copies of the word that the law's known tells. Printed by mktf.py. target: Hear; a zone's Head and Last. Printed by mktg.py. zone.Open: of a ledger that has an image, and requests behind it. source.New over a zone whose economy is nothing. The document's disk (satrapyref3) in memory. -/
import Derived.Laws.EntriesVeiled
import Derived.Sort.Walk0
import Derived.Test.YtogdfkilhpkloaaGreatDoorAA
import Derived.Test.YtogdfkilhpkloaaGreatDoorAC
import Derived.Test.YtogdfkilhpkloaaGreatDoorAD
import Derived.Test.YtogdfkilhpkloaaGreatDoorAE
import Derived.Test.YtogdfkilhpkloaaGreatDoorAF
import Derived.Test.YtogdfkilhpkloaaGreatDoorAG
namespace Go.Proofs.YtogdfkilhpkloaaGreatDoor
open Go.RowKit Go.Sat Go.Maps

set_option maxRecDepth 100000 in
theorem nil_append (w : World) (x : Value) : Calls Tryz.prog 55 #[.pointer none, x] w fun e w' => e = .returned (.tuple #[.int .i64 0, .int .i64 1]) ∧ w' = w := by
  go_enter Tryz.func55, Tryz.ntmps55
  go_wp2_with fail
  go_ret2
  exact ⟨rfl, rfl⟩

section
variable {w w1 w2 wc : World} {l d : Nat} {pre : ByteArray} {D : DiskM} {M : LedM} {F : Nat → Prop}

end
end Go.Proofs.YtogdfkilhpkloaaGreatDoor

namespace Go.Proofs.YtogdfkilhpkloaaGreatDoor
open Go.RowKit Go.Sat Go.Maps

section
variable {D : DiskM} {n b : Bs}

theorem may_ok (hf : D.fuse ≠ some 0) (hn : okN n = true) : D.may [n] = 0 := by
  unfold DiskM.may
  rw [if_neg hf, if_pos (by simp [hn])]
theorem remove_ok {f : FileM} (hf : D.fuse ≠ some 0) (hn : okN n = true) (hg : Sat.get n D.files = some f) : D.remove [n] = (⟨D.room, del n D.files, offF D.fuse 1⟩, 0) := by
  have h1 : DiskM.each1 DiskM.gRemove D n = (⟨D.room, del n D.files, offF D.fuse 1⟩, 0) := by
    unfold DiskM.each1
    rw [if_neg (by rw [may_ok hf hn]; simp), hg]
    rfl
  show (if (DiskM.each1 _ _ _).2 = 0 then _ else _) = _
  rw [h1, if_pos rfl]
  rfl
end
end Go.Proofs.YtogdfkilhpkloaaGreatDoor

namespace Go.Proofs.YtogdfkilhpkloaaGreatDoor
open Go.RowKit Go.Sat Go.Maps

/-- A file all of which lasts. -/
def whole (b : Bs) : FileM := ⟨b, b.length⟩

/-- The records of entries behind a number. -/
def recF : Nat → List Bs → List Bs
  | _, [] => []
  | n, e :: r => imgB (n + 1) e :: recF (n + 1) r

theorem imgB_len (n : Nat) (p : Bs) (hn : n ≤ 4611686018427387904) (hp : p.length ≤ 4611686018427387904) : (imgB n p).length ≤ p.length + 18 := by
  unfold imgB rowB
  have h1 := numB_nine hn
  have h2 := numB_nine hp
  rw [List.length_append, List.length_append]
  omega

theorem rd_img (n : Nat) (p : Bs) (hn : n ≤ 4611686018427387904) : Rd.num ⟨imgB n p, false⟩ = (n, ⟨rowB p, false⟩) := Rd.num_of hn _ _
theorem rd_row (p : Bs) (hp : p.length ≤ 4611686018427387904) : Rd.bytes ⟨rowB p, false⟩ = (p, ⟨[], false⟩) := by
  have := Rd.bytes_of hp [] false
  rwa [List.append_nil] at this

/-- What is asked of entries. -/
def Fits (n : Nat) (es : List Bs) : Prop := n + es.length ≤ 1099511627776 ∧ ∀ e ∈ es, e.length ≤ 65536

theorem take1_next {base : Nat} {la : Int} {es : List Bs} {p : Bs} (hla : la = -1 ∨ la = ((base + es.length : Nat) : Int)) (hn : base + es.length + 1 ≤ 1099511627776) (hp : p.length ≤ 65536) :
    take1 base (la, es) (imgB (base + es.length + 1) p) = some (((base + es.length + 1 : Nat) : Int), es ++ [p]) := by
  unfold take1
  rw [rd_img _ _ (by omega)]
  dsimp only
  rw [rd_row _ (by omega)]
  rw [if_neg (by
    rintro (h | h | h | ⟨h1, h2⟩)
    · cases h
    · omega
    · omega
    · rcases hla with e | e <;> omega), if_neg (by omega), if_neg (by simp)]

theorem takeAll_new (base : Nat) : ∀ (fs es : List Bs) (la : Int), (la = -1 ∨ la = ((base + es.length : Nat) : Int)) → Fits (base + es.length) fs →
    ∃ lb, takeAll base (la, es) (recF (base + es.length) fs) = some (lb, es ++ fs)
  | [], es, la, _, _ => ⟨la, by rw [List.append_nil]; rfl⟩
  | f :: fs, es, la, hla, hf => by
    have h1 := take1_next (p := f) hla (by have := hf.1; simp at this; omega) (hf.2 f (by simp))
    obtain ⟨lb, h2⟩ := takeAll_new base fs (es ++ [f]) ((base + es.length + 1 : Nat) : Int) (.inr (by rw [List.length_append]; rfl)) ⟨by have := hf.1; simp at this ⊢; omega, fun e he => hf.2 e (by simp [he])⟩
    refine ⟨lb, ?_⟩
    show (match take1 base (la, es) (imgB (base + es.length + 1) f) with | none => none | some t => takeAll base t (recF (base + es.length + 1) fs)) = _
    rw [h1]
    rw [List.length_append, List.append_assoc] at h2
    exact h2

/-! ### The disk -/
def baseOf : Option (Nat × Bs) → Nat
  | none => 0
  | some (n, _) => n
def dataI : Option (Nat × Bs) → Bs
  | none => []
  | some (_, b) => b

/-! ### What it opens as -/
theorem image_none : imageOf none = (0, 0, []) := by
  unfold imageOf
  rw [if_pos loadE_none]
theorem image_some (n : Nat) (p : Bs) (hn : n ≤ 1099511627776) (hp : p.length ≤ 524288) : imageOf (some (whole (frameN (imgB n p)))) = (0, n, p) := by
  have hl := imgB_len n p (by omega) (by omega)
  have h := load_frame (imgB n p) (by omega) (frameN (imgB n p)).length
  unfold imageOf whole
  rw [h.1, h.2, if_neg (by decide), if_neg (by decide), rd_img _ _ (by omega)]
  dsimp only
  rw [rd_row _ (by omega), if_neg (by
    rintro (h | h)
    · cases h
    · omega)]

def OkI : Option (Nat × Bs) → Prop
  | none => True
  | some (n, p) => n ≤ 1099511627776 ∧ p.length ≤ 524288

theorem rid_none {D : DiskM} {n : Bs} (h : Sat.get n D.files = none) : D.rid [n] = (D, 0) := by
  have : DiskM.rid1 D n = (D, 0) := by unfold DiskM.rid1; rw [h]; rfl
  show (if (DiskM.rid1 D n).2 = 0 then _ else _) = _
  rw [this]
  rfl
theorem rid_some {D : DiskM} {n : Bs} {f : FileM} (hf : D.fuse ≠ some 0) (hn : okN n = true) (h : Sat.get n D.files = some f) : D.rid [n] = (⟨D.room, del n D.files, offF D.fuse 1⟩, 0) := by
  have : DiskM.rid1 D n = (⟨D.room, del n D.files, offF D.fuse 1⟩, 0) := by unfold DiskM.rid1; rw [h]; exact remove_ok hf hn h
  show (if (DiskM.rid1 D n).2 = 0 then _ else _) = _
  rw [this]
  rfl
theorem Fits.rows {n : Nat} {es : List Bs} (h : Fits n es) : ∀ l ∈ recF n es, l.length ≤ 1048576 := by
  induction es generalizing n with
  | nil => intro l hl; cases hl
  | cons e r ih =>
    intro l hl
    have h1 := h.1
    simp only [List.length_cons] at h1
    cases hl with
    | head =>
      have h2 := h.2 e (by simp)
      have := imgB_len (n + 1) e (by omega) (by omega)
      omega
    | tail _ hl => exact ih ⟨by omega, fun e he => h.2 e (by simp [he])⟩ l hl

end Go.Proofs.YtogdfkilhpkloaaGreatDoor

namespace Go.Proofs.YtogdfkilhpkloaaGreatDoor
open Go.RowKit Go.Sat Go.Maps

def MM (im : Option (Nat × Bs)) (es : List Bs) : LedM := ⟨baseOf im, dataI im, es, false⟩

theorem MM_last (im : Option (Nat × Bs)) (es : List Bs) : (MM im es).last = baseOf im + es.length := rfl

/-! ### A crash -/
/-! ### With a shadow beside -/
/-! ### Append -/
section
variable {im : Option (Nat × Bs)} {es : List Bs} {p : Bs}

end
end Go.Proofs.YtogdfkilhpkloaaGreatDoor

namespace Go.Proofs.YtogdfkilhpkloaaGreatDoor
open Go.RowKit Go.Sat Go.Maps

/-- A row, made a string. -/
theorem conv_str {P : Program} {W : World} {src dst e : TypeId} (hs : P.underlying src = some (.slice e)) (he : P.underlying e = some (.int .u8)) (hd : P.underlying dst = some .string) {v : Value} {l : Bs} (h : HasB W v l) :
    (convert src dst v).run P W = .ok (.string ⟨l.toArray⟩) W := by
  obtain ⟨_, p, c, rfl, h0, hc⟩ := h
  cases p with
  | none =>
    obtain rfl : l = [] := List.eq_nil_of_length_eq_zero (h0 rfl)
    exact Go.run_convert_bytes_nil W src e hs he _ _ dst hd
  | some a =>
    have hl := run_loadCells_list (P := P) W a (bytesV l) (fun j v hj => hc a rfl j v hj)
    have e1 : bytesV l = (Lib.numsL l).map (Value.int .u8) := by simp [bytesV, Lib.numsL, List.map_map, Function.comp_def]
    have e2 : (bytesV l).length = l.length := bytesV_len l
    rw [e2, e1] at hl
    rw [run_convert_bytes_string W src dst e _ _ c hs he hd, run_bytesToString W a l.length c (Lib.numsL l) hl, foldl_push_bytes]
    congr 2
    simp [Lib.numsL, List.map_map, Function.comp_def, ByteArray.empty, ByteArray.emptyWithCapacity]
    rfl

section
variable {w w1 : World} {l d : Nat} {pre : ByteArray} {D : DiskM} {M : LedM} {F : Nat → Prop}

end

end Go.Proofs.YtogdfkilhpkloaaGreatDoor

namespace Go.Proofs.YtogdfkilhpkloaaGreatDoor
open Go.RowKit Go.Sat Go.Maps

/-- What a ledger of this prefix has on a disk. -/
structure Lies (pre : Bs) (D : DiskM) (im : Option (Nat × Bs)) (es : List Bs) : Prop where
  log : Sat.get (logN pre) D.files = if es = [] then none else some (whole (recsB (recF (baseOf im) es)))
  img : Sat.get (imgN pre) D.files = im.map fun x => whole (frameN (imgB x.1 x.2))
  sh : Sat.get (shadowN (imgN pre)) D.files = none

structure Tame (D : DiskM) (u c : Nat) : Prop where
  room : 65536 ≤ D.room
  fuse : D.fuse = none
  used : D.used ≤ u
  count : D.files.length ≤ c

theorem log_ok {pre : Bs} (h : pre.length ≤ 20) : okN (logN pre) = true := by
  have : (logN pre).length = pre.length + 4 := by simp [logN, logX]
  simp [okN, this]
  omega
theorem img_len (pre : Bs) : (imgN pre).length = pre.length + 4 := by simp [imgN, imgX]
theorem log_img (pre : Bs) : logN pre ≠ imgN pre := fun e => by
  have := List.append_cancel_left e
  exact absurd this (by decide)
theorem log_sh (pre : Bs) : logN pre ≠ shadowN (imgN pre) := fun e => by
  have := congrArg List.length e
  rw [shadow_len, img_len] at this
  simp [logN, logX] at this
theorem img_sh (pre : Bs) : imgN pre ≠ shadowN (imgN pre) := shadow_ne _

theorem lies_img {pre : Bs} {D : DiskM} {im : Option (Nat × Bs)} {es : List Bs} (h : Lies pre D im es) (hi : OkI im) : imageOf (Sat.get (imgN pre) D.files) = (0, baseOf im, dataI im) := by
  rw [h.img]
  cases im with
  | none => exact image_none
  | some x => exact image_some x.1 x.2 hi.1 hi.2

theorem openG {D D1 : DiskM} {pre : Bs} {i : Nat × Nat × Bs} {g : DiskM × Nat × List Bs} (hp : 1 ≤ pre.length ∧ pre.length ≤ 20) (h1 : D.rid [shadowN (imgN pre)] = (D1, 0)) (hi : imageOf (Sat.get (imgN pre) D1.files) = i) (hi0 : i.1 = 0) (hg : logOf D1 pre i.2.1 = g) : ledOpen D pre = (g.1, g.2.1, ⟨i.2.1, i.2.2, g.2.2, false⟩) := by
  unfold ledOpen
  rw [if_neg (by omega), h1]
  rw [if_neg (by simp)]
  dsimp only
  rw [hi, if_neg (by simpa using hi0), hg]

theorem open_lies {pre : Bs} {D : DiskM} {im : Option (Nat × Bs)} {es : List Bs} (hp : 1 ≤ pre.length ∧ pre.length ≤ 20) (h : Lies pre D im es) (hi : OkI im) (hf : Fits (baseOf im) es) : ledOpen D pre = (D, 0, MM im es) := by
  refine openG (i := (0, baseOf im, dataI im)) (g := (D, 0, es)) hp (rid_none h.sh) (lies_img h hi) rfl ?_
  unfold logOf
  rw [h.log]
  by_cases he : es = []
  · subst he
    rw [if_pos rfl]
  · rw [if_neg he]
    obtain ⟨lb, hl⟩ := takeAll_new (baseOf im) es [] (-1) (.inl rfl) (by simpa using hf)
    have hs := scan_recs (recF (baseOf im) es) [] hf.rows (.inl rfl)
    rw [List.append_nil] at hs
    have hl' : takeAll (baseOf im) (-1, []) (recF (baseOf im) es) = some (lb, es) := by simpa using hl
    have hT : tornOff D (logN pre) (recsB (recF (baseOf im) es)).length (recsB (recF (baseOf im) es)).length = (D, 0) := if_neg (by omega)
    dsimp only
    show (match takeAll (baseOf im) (-1, []) (scan (recsB (recF (baseOf im) es))).1 with | none => _ | some s => _) = _
    rw [hs, hl']
    dsimp only
    rw [show (whole (recsB (recF (baseOf im) es))).data = recsB (recF (baseOf im) es) from rfl, hs, hT, if_neg (by simp), if_neg he]

theorem used_put (n : Bs) (f : FileM) (L : List (Bs × FileM)) (h : Srt L) : sumBy DiskM.size (put n f L) ≤ f.data.length + sumBy DiskM.size L := by
  rw [sum_put]
  have : sumBy DiskM.size (del n L) ≤ sumBy DiskM.size L := by
    cases hg : Sat.get n L with
    | none => rw [del_none hg]; exact Nat.le_refl _
    | some a =>
      rw [sum_del h hg]
      omega
  show f.data.length + _ ≤ _
  omega
theorem used_del (n : Bs) (L : List (Bs × FileM)) (h : Srt L) : sumBy DiskM.size (del n L) ≤ sumBy DiskM.size L := by
  cases hg : Sat.get n L with
  | none => rw [del_none hg]; exact Nat.le_refl _
  | some a =>
    rw [sum_del h hg]
    omega
theorem count_del (n : Bs) (L : List (Bs × FileM)) (h : Srt L) : (del n L).length ≤ L.length := by
  cases hg : Sat.get n L with
  | none => rw [del_none hg]; exact Nat.le_refl _
  | some a =>
    rw [len_del h hg]
    omega
theorem count_put (n : Bs) (f : FileM) (L : List (Bs × FileM)) (h : Srt L) : (put n f L).length ≤ L.length + 1 := by
  rw [len_put]
  have := count_del n L h
  omega
section
variable {pre : Bs} {D : DiskM} {im : Option (Nat × Bs)} {es : List Bs} {u c : Nat} {p : Bs}

theorem rid_gone {n : Bs} (_ : Srt D.files) (hf : D.fuse = none) (hn : okN n = true) : D.rid [n] = (⟨D.room, del n D.files, none⟩, 0) := by
  cases hg : Sat.get n D.files with
  | none =>
    rw [rid_none hg, del_none hg, ← hf]
  | some f =>
    rw [rid_some (by rw [hf]; intro e; cases e) hn hg, hf]
    rfl

theorem wri_lies {n : Nat} (hp : 1 ≤ pre.length ∧ pre.length ≤ 20) (hO : D.OK) (hT : Tame D u c) (h : Lies pre D im es) (hl : baseOf im + es.length ≤ n) (hn : n ≤ 1099511627776) (hpl : p.length ≤ 524288) (hu : u + p.length + 30 ≤ 65536) (hc : c < 4096) :
    ∃ D2, ledWrite pre D (MM im es) (n : Int) p = ⟨D2, MM (some (n, p)) [], 0, 0⟩ ∧ Lies pre D2 (some (n, p)) [] ∧ Tame D2 (u + p.length + 30) (c + 1) ∧ ∀ m, m ≠ logN pre → m ≠ imgN pre → Sat.get m D2.files = Sat.get m D.files := by
  have hlen := imgB_len n p (by omega) (by omega)
  have hfl := frame_len (imgB n p)
  have hs := save_all (D := D) (n := imgN pre) (l := imgB n p) hO (fun j e => by rw [hT.fuse] at e; cases e) (by rw [img_len]; omega) (by rw [img_len]; omega) h.sh (by have := hT.used; have := hT.room; omega) (by have := hT.count; omega)
  rw [hT.fuse] at hs
  have hr := rid_gone (D := ⟨D.room, put (imgN pre) ⟨frameN (imgB n p), (frameN (imgB n p)).length⟩ D.files, offF none 3⟩) (n := logN pre) (srt_put hO.srt) rfl (log_ok hp.2)
  have hI : imgOn pre D n p = (⟨D.room, del (logN pre) (put (imgN pre) (whole (frameN (imgB n p))) D.files), none⟩, 0) := by
    unfold imgOn
    rw [hs, if_neg (by simp)]
    exact hr
  have hS := srt_put (n := imgN pre) (a := whole (frameN (imgB n p))) hO.srt
  refine ⟨⟨D.room, del (logN pre) (put (imgN pre) (whole (frameN (imgB n p))) D.files), none⟩, ?_, ⟨?_, ?_, ?_⟩, ⟨hT.room, rfl, ?_, ?_⟩, fun m hm1 hm2 => ?_⟩
  · unfold ledWrite
    rw [if_neg (by simp [MM]), if_neg (by rw [MM_last]; omega), if_neg (by omega), Int.toNat_natCast, hI, if_neg (by simp)]
    rfl
  · show Sat.get _ (del _ _) = _
    rw [get_del_same, if_pos rfl]
  · show Sat.get _ (del _ _) = _
    rw [get_del_other hS (log_img pre).symm, get_put_same hO.srt]
    rfl
  · show Sat.get _ (del _ _) = _
    rw [get_del_other hS (log_sh pre).symm, get_put_other hO.srt _ (img_sh pre).symm, h.sh]
  · refine Nat.le_trans (used_del _ _ hS) (Nat.le_trans (used_put _ _ _ hO.srt) ?_)
    have := hT.used
    show (frameN (imgB n p)).length + D.used ≤ _
    omega
  · exact Nat.le_trans (count_del _ _ hS) (Nat.le_trans (count_put _ _ _ hO.srt) (by have := hT.count; omega))
  · show Sat.get _ (del _ _) = _
    rw [get_del_other hS hm1, get_put_other hO.srt _ hm2]

end

theorem Lies.other {pre : Bs} {D D2 : DiskM} {im : Option (Nat × Bs)} {es : List Bs} (h : Lies pre D im es) (hk : ∀ m, m = logN pre ∨ m = imgN pre ∨ m = shadowN (imgN pre) → Sat.get m D2.files = Sat.get m D.files) : Lies pre D2 im es :=
  ⟨by rw [hk _ (.inl rfl)]; exact h.log, by rw [hk _ (.inr (.inl rfl))]; exact h.img, by rw [hk _ (.inr (.inr rfl))]; exact h.sh⟩
theorem lies_new (pre : Bs) (n : Nat) : Lies pre (DiskM.fresh n) none [] := ⟨rfl, rfl, rfl⟩
theorem tame_new {n : Nat} (h : 65536 ≤ n) : Tame (DiskM.fresh n) 0 0 := ⟨h, rfl, Nat.le_refl _, Nat.le_refl _⟩
end Go.Proofs.YtogdfkilhpkloaaGreatDoor

namespace Go.Proofs.YtogdfkilhpkloaaGreatDoor
open Go.RowKit Go.Sat Go.Maps

/-- A zone of a law's own, its disk, and blocks (F) that neither has. -/
def ZoneF (w w1 : World) (z d : Nat) (h : HeadM) (pre : ByteArray) (D : DiskM) (M : LedM) (E : EcoR) (ev : Value) (dead : Bool) (F : Nat → Prop) : Prop :=
  ∃ eb l vm sm tm am own, LedF w w1 l d pre D M (fun k => F k ∨ k = z ∨ own k ≠ none ∨ ev.ownBlock = some k) ∧ w1.heap[z]? = some (ZoneO h eb l ev dead) ∧ EconIn w1 eb vm sm tm am E own ∧
    (∀ k, F k → k ≠ z ∧ own k = none ∧ ev.ownBlock ≠ some k) ∧ own z = none ∧ (∀ k, ev.ownBlock = some k → k ≠ z ∧ own k = none) ∧ w.heap.size ≤ z ∧ (∀ k, own k ≠ none → w.heap.size ≤ k) ∧ ∀ k, ev.ownBlock = some k → w.heap.size ≤ k
theorem St.more {w w1 w2 : World} {d : Nat} {D : DiskM} {F F' : Nat → Prop} (h : St w w1 d D F) (hb : Below w1.heap.size w1 w2) (hF : ∀ k, F' k → (F k ∨ w1.heap.size ≤ k) ∧ k < w2.heap.size) : St w w2 d D F' := h.move (Chg.of_below hb) (fun _ _ h => h.elim) hF
theorem open_same {w w1 : World} {d : Nat} {D D' : DiskM} {M : LedM} {F : Nat → Prop} {a : ByteArray} (h : St w w1 d D F) (he : ledOpen D (nm a) = (D', 0, M)) :
    Calls Tryz.prog 43 #[.pointer (some ⟨d, 0, none⟩), .string a] w1 fun e w' => ∃ l, e = .returned (.tuple #[.pointer (some ⟨l, 0, none⟩), .int .i64 0]) ∧ LedF w w' l d a D' M F ∧ Same F w1 w' := by
  have h1 := open_calls h a
  rw [he] at h1
  refine h1.mono ?_
  rintro e w' ⟨-, hs, ⟨-, l, rfl, hL⟩ | ⟨hne, -⟩⟩
  · exact ⟨l, rfl, hL, hs⟩
  · exact absurd rfl hne
theorem HeadM.ranges {h : HeadM} (hh : h.is = true) : (1 ≤ h.id ∧ h.id ≤ 1048576) ∧ (h.fr.size ≤ 16 ∧ h.tu.size ≤ 16) ∧ (1 ≤ h.epoch ∧ h.epoch ≤ 1099511627776) ∧ 1 ≤ h.state ∧ h.state ≤ 3 := by
  unfold HeadM.is isSpan at hh
  simp at hh
  omega
theorem HeadM.small_of {h : HeadM} (hh : h.is = true) : h.small := by
  have := HeadM.ranges hh
  unfold HeadM.small
  omega
theorem EconIn.keep2 {w w' : World} {eb vm sm tm am : Nat} {E : EcoR} {own : Nat → Option (Nat × Bs)} (h : EconIn w eb vm sm tm am E own) (hs : ∀ k, own k ≠ none → w'.heap[k]? = w.heap[k]?) : EconIn w' eb vm sm tm am E own :=
  ⟨(hs eb (by rw [h.oE]; simp)).trans h.cells, h.vaults.keep (hs vm (by rw [h.oV]; simp)),
   fun p hp => (h.each p hp).keep fun k hk => hs k (by rcases hk with rfl | rfl | rfl <;> simp [h.oP p hp]),
   h.sess.keep (hs sm (by rw [h.oS]; simp)), h.trans.keep (hs tm (by rw [h.oT]; simp)), h.arr.keep (hs am (by rw [h.oA]; simp)),
   h.oE, h.oV, h.oS, h.oT, h.oA, h.oP, fun k hk => by
     have h1 := hs k hk
     rw [Array.getElem?_eq_getElem (h.oLt k hk)] at h1
     exact lt_of_block h1⟩
def MadeZ (w w1 : World) (d : Nat) (h : HeadM) (pre : ByteArray) (D : DiskM) (M : LedM) (F : Nat → Prop) (e : Ending) (w' : World) : Prop := ∃ z, e = .returned (.tuple #[.pointer (some ⟨z, 0, none⟩), .int .i64 0]) ∧ ZoneF w w' z d h pre D M E0 (.slice none 0 0) false F ∧ Same F w1 w'
def HeadO (h : HeadM) : Obj := .cells #[.int .i64 h.id, .string h.fr, .string h.tu, .int .i64 h.epoch, .int .i64 h.state] 35 (0, 0)
set_option maxRecDepth 100000 in
set_option maxHeartbeats 16000000 in
theorem make0_calls {w w1 : World} {d : Nat} {D D1 D2 : DiskM} {M1 M2 : LedM} {F : Nat → Prop} (hS : St w w1 d D F) (h : HeadM) (hh : h.is = true) (n : Nat) (hidn : h.id = (n : Int)) (hn : n < 100) (i : Int) (hi : -9223372036854775808 ≤ i ∧ i ≤ 9223372036854775807) {p : Option Addr} {c : Nat} (hx : HasB w1 (.slice p 4 c) [0, 0, 0, 0])
    (ho : ledOpen D (nm (zpre n)) = (D1, 0, M1)) (hw : ledWrite (nm (zpre n)) D1 M1 i (zdata h [0, 0, 0, 0]) = ⟨D2, M2, 0, 0⟩) (hlen : (zdata h [0, 0, 0, 0]).length ≤ 140737488355328) :
    Calls Tryz.prog 12 #[.pointer (some ⟨d, 0, none⟩), .agg #[.int .i64 h.id, .string h.fr, .string h.tu, .int .i64 h.epoch, .int .i64 h.state], .int .i64 i, .slice p 4 c] w1 (MadeZ w w1 d h (zpre n) D2 M2 F) := by
  have hr := HeadM.ranges hh
  have Hsm := Lib.hid (HeadM.small_of hh)
  have HI := Lib.hid (fun W => ishead_calls W h ⟨by omega, by omega⟩)
  rw [hh] at HI
  have Ho := Lib.hid ho
  have Hw := Lib.hid hw
  have HS := Lib.hid hS
  have Hx := Lib.hid hx
  have Hl := Lib.hid hlen
  clear hr hh ho hw hS hx hlen
  obtain ⟨id, fr, tu, ep, st⟩ := h
  obtain rfl : id = (n : Int) := hidn
  dsimp only at HI ⊢
  have hB1 := box_below w1 (HeadO ⟨n, fr, tu, ep, st⟩)
  have hH1 := new_block w1 (HeadO ⟨n, fr, tu, ep, st⟩)
  have Hp := Lib.hid (And.intro hB1 hH1)
  clear hB1 hH1
  go_enter Tryz.func12, Tryz.ntmps12
  go_wp2_with fail
  refine (HI.out _).mono ?_
  rintro e W2 ⟨rfl, hb⟩
  have HB2 := Lib.hid (Hp.out.1.trans (hb.mono Hp.out.1.size))
  have HH2 := Lib.hid ((hb.block _ (lt_of_block Hp.out.2)).trans Hp.out.2)
  clear hb HI Hp
  have HD := Lib.hid (decode0_calls (HasB.below Hx.out HB2.out))
  go_wp2_with fail
  refine HD.out.mono ?_
  rintro e W3 ⟨eb, rfl, hE, hb⟩
  have HB3 := Lib.hid (HB2.out.trans (hb.mono HB2.out.size))
  have HH3 := Lib.hid ((hb.block _ (lt_of_block HH2.out)).trans HH2.out)
  have HE3 := Lib.hid (hE.less HB2.out.size)
  clear hb hE HD HH2 HB2
  have p1 : W3.cell? ⟨w1.heap.size, 1, none⟩ = some (.string fr) := cell_of HH3.out rfl
  have p2 : W3.cell? ⟨w1.heap.size, 2, none⟩ = some (.string tu) := cell_of HH3.out rfl
  obtain ⟨vm, sm, tm, am, own, hE, ho⟩ := HE3.out
  have HF := Lib.hid (fits0_calls hE fr tu)
  have HE := Lib.hid (And.intro hE ho)
  clear hE ho HE3
  go_wp2_with fail
  refine HF.out.mono ?_
  rintro e W4 ⟨rfl, hb⟩
  have HB4 := Lib.hid (HB3.out.trans (hb.mono HB3.out.size))
  have HH4 := Lib.hid ((hb.block _ (lt_of_block HH3.out)).trans HH3.out)
  have HE4 := Lib.hid (HE.out.1.bel hb)
  clear hb HF p1 p2 HH3 HB3
  have p0 : W4.cell? ⟨w1.heap.size, 0, none⟩ = some (.int .i64 (n : Int)) := cell_of HH4.out rfl
  go_wp2_with fail
  refine (prefix_calls2 W4 n hn).mono ?_
  rintro e W4' ⟨rfl, hW4'⟩
  obtain rfl : W4 = W4' := hW4'.symm
  have HO := Lib.hid (open_same (F := fun k => F k ∨ (w1.heap.size ≤ k ∧ k < W4.heap.size)) (HS.out.more HB4.out fun k hk => by
    rcases hk with hk | hk
    · exact ⟨.inl hk, Nat.lt_of_lt_of_le (HS.out.flt hk) HB4.out.size⟩
    · exact ⟨.inr hk.1, hk.2⟩) Ho.out)
  clear p0
  go_wp2_with fail
  refine HO.out.mono ?_
  rintro e W5 ⟨l, rfl, hL, hs⟩
  have HL5 := Lib.hid (And.intro hL hs)
  clear hL hs HO
  have HH5 := Lib.hid ((HL5.out.2 _ (.inr ⟨Nat.le_refl _, lt_of_block HH4.out⟩)).trans HH4.out)
  have HE5 := Lib.hid (HE4.out.keep2 fun k hk => HL5.out.2 k (.inr ⟨HE.out.2 k hk, HE4.out.oLt k hk⟩))
  have p0 : W5.cell? ⟨w1.heap.size, 0, none⟩ = some (.int .i64 (n : Int)) := cell_of HH5.out rfl
  have p1 : W5.cell? ⟨w1.heap.size, 1, none⟩ = some (.string fr) := cell_of HH5.out rfl
  have p2 : W5.cell? ⟨w1.heap.size, 2, none⟩ = some (.string tu) := cell_of HH5.out rfl
  have p3 : W5.cell? ⟨w1.heap.size, 3, none⟩ = some (.int .i64 ep) := cell_of HH5.out rfl
  have p4 : W5.cell? ⟨w1.heap.size, 4, none⟩ = some (.int .i64 st) := cell_of HH5.out rfl
  clear HH4
  go_wp2_with fail
  obtain ⟨Z, hZ⟩ : ∃ Z, Z = ZoneO ⟨n, fr, tu, ep, st⟩ eb l (.slice none 0 0) false := ⟨_, rfl⟩
  have hb6 := box_below W5 Z
  have hz6 := new_block W5 Z
  have hL6 := HL5.out.1.box Z
  rw [hZ] at hb6 hz6 hL6
  have HZ6 := Lib.hid (And.intro hb6 (And.intro hz6 hL6))
  have hE6 := HE5.out.bel hb6
  have Hda := Lib.hid (zdata_calls (ev := .slice none 0 0) (dead := false) hz6 hE6 Hsm.out)
  have HE6 := Lib.hid hE6
  clear hE6 hb6 hz6 hL6 hZ p0 p1 p2 p3 p4
  obtain ⟨W6, hW6⟩ : ∃ W6, W6 = W5.alloc (ZoneO ⟨n, fr, tu, ep, st⟩ eb l (.slice none 0 0) false) := ⟨_, rfl⟩
  rw [← hW6] at HZ6 Hda HE6
  refine ((show Calls Tryz.prog 46 #[.pointer (some ⟨W5.heap.size, 0, none⟩)] (W5.alloc (ZoneO ⟨n, fr, tu, ep, st⟩ eb l (.slice none 0 0) false)) _ from hW6 ▸ Hda.out)).mono ?_
  rintro e W7 ⟨v, rfl, hv, hvn, hb7⟩
  rw [← hW6] at hvn hb7
  obtain ⟨pv, cv, rfl, -⟩ := own_cap0 hv
  have hz7 := (hb7.block _ (lt_of_block HZ6.out.2.1)).trans HZ6.out.2.1
  have HE7 := Lib.hid (HE6.out.bel hb7)
  have HL7 := Lib.hid (HZ6.out.2.2.more hb7 (F' := fun k => ((F k ∨ (w1.heap.size ≤ k ∧ k < W4.heap.size)) ∨ k = W5.heap.size) ∨ (Value.slice pv (zdata ⟨n, fr, tu, ep, st⟩ [0, 0, 0, 0]).length cv).ownBlock = some k) fun k hk => hk.imp id fun e => ⟨hvn k e, OwnR.lt hv e⟩)
  have Hwr := Lib.hid (lwrite_calls HL7.out i hi (fun W _ hs => has_own hv fun k hk => hs k (.inr hk)) Hl.out)
  rw [Hw.out] at Hwr
  have HV := Lib.hid (And.intro hz7 (And.intro hv (And.intro hvn hb7)))
  clear hz7 hv hvn hb7 Hda
  obtain ⟨nz, hnz⟩ : ∃ nz, nz = (zdata ⟨n, fr, tu, ep, st⟩ [0, 0, 0, 0]).length := ⟨_, rfl⟩
  rw [← hnz] at Hwr ⊢
  clear hnz
  go_wp2_with fail
  refine Hwr.out.mono ?_
  rintro e W8 ⟨rfl, hL8, hs8⟩
  have HL8 := Lib.hid (And.intro hL8 hs8)
  clear hL8 hs8 Hwr
  go_wp2_with fail
  go_ret2
  have hlo := HS.out.below.size
  have h15 : w1.heap.size < W5.heap.size := lt_of_block HH5.out
  have hown : ∀ k, own k ≠ none → w1.heap.size ≤ k ∧ k < W4.heap.size := fun k hk => ⟨HE.out.2 k hk, HE4.out.oLt k hk⟩
  refine ⟨W5.heap.size, rfl, ⟨eb, l, vm, sm, tm, am, own, HL8.out.1.less fun k hk => ?_, (HL8.out.2 _ (.inl (.inr rfl))).trans HV.out.1, (HE6.out.bel HV.out.2.2.2).keep2 fun k hk => HL8.out.2 k (.inl (.inl (.inr (hown k hk)))), fun k hk => ⟨?_, ?_, by simp [Value.ownBlock]⟩, ?_, fun k hk => (by cases hk), (by omega), fun k hk => (by have := (hown k hk).1; omega), fun k hk => (by cases hk)⟩, fun k hk => ?_⟩
  · rcases hk with hk | rfl | hk | hk
    · exact .inl (.inl (.inl hk))
    · exact .inl (.inr rfl)
    · exact .inl (.inl (.inr (hown k hk)))
    · cases hk
  · have := HS.out.flt hk
    omega
  · refine Classical.byContradiction fun hh => ?_
    have h1 := (hown k hh).1
    have h2 := HS.out.flt hk
    omega
  · refine Classical.byContradiction fun hh => ?_
    have := HE5.out.oLt _ hh
    omega
  · have h5 := HL5.out.1.flt (.inl hk)
    exact (HL8.out.2 k (.inl (.inl (.inl hk)))).trans ((HV.out.2.2.2.block k (Nat.lt_of_lt_of_le h5 HZ6.out.1.size)).trans ((HZ6.out.1.block k h5).trans ((HL5.out.2 k (.inl hk)).trans (HB4.out.block k (HS.out.flt hk)))))
end Go.Proofs.YtogdfkilhpkloaaGreatDoor

namespace Go.Proofs.YtogdfkilhpkloaaGreatDoor
open Go.RowKit Go.Sat Go.Maps

/-- A Reader whose bytes lie in the blocks of A. -/
def RdX (A : Nat → Prop) (w : World) (r : Nat) (R : Rd) : Prop := ∃ p n c, RdIn w r R p n c ∧ ∀ k, (Value.slice p n c).ownBlock = some k → A k
theorem RdX.at {A : Nat → Prop} {w : World} {r : Nat} {R : Rd} (h : RdX A w r R) : RdAt w r R := let ⟨p, n, c, h, _⟩ := h; ⟨p, n, c, h⟩
theorem RdX.lt {A : Nat → Prop} {w : World} {r : Nat} {R : Rd} (h : RdX A w r R) : r < w.heap.size := let ⟨_, _, _, h, _⟩ := h; h.rlt
theorem RdX.chg {A S : Nat → Prop} {w w' : World} {r : Nat} {R : Rd} (h : RdX A w r R) (hc : Chg S w w') (hr : ¬ S r) (hA : ∀ k, A k → ¬ S k) : RdX A w' r R := by
  obtain ⟨p, n, c, h, ha⟩ := h
  exact ⟨p, n, c, ⟨(hc.block r h.rlt hr).trans h.cells, HasB.chg h.has hc fun k hk => hA k (ha k hk), h.cap, h.ne, h.len⟩, ha⟩
theorem run_tailX {P : Program} {w : World} {t e : TypeId} {i : TypeInfo} (ht : P.underlying t = some (.slice e)) (hi : P.info? e = some i) (hsz : i.size = 1) {p : Option Addr} {n c : Nat} {l : Bs} (h : HasB w (.slice p n c) l) (hnc : n ≤ c) (r k : Nat) (hne : (Value.slice p n c).ownBlock ≠ some r) (hk : k ≤ n) :
    ∃ p' c', (∀ W, (Instr.slice t (.slice p n c) (some (.int .i64 (k : Int))) none none).run P W = .ok (.slice p' (n - k) c') W) ∧ HasB w (.slice p' (n - k) c') (l.drop k) ∧ n - k ≤ c' ∧ (Value.slice p' (n - k) c').ownBlock ≠ some r ∧ ∀ x, (Value.slice p' (n - k) c').ownBlock = some x → (Value.slice p n c).ownBlock = some x := by
  obtain ⟨p', c', h1, h2, h3, h4⟩ := run_tail (P := P) ht hi hsz h hnc r k hne hk
  refine ⟨p', c', h1, h2, h3, h4, fun x hx => ?_⟩
  have e1 := h1 w
  rw [run_tail0 (P := P) w ht hi hsz p n c k hk hnc] at e1
  have e2 : (if c = k then p else p.map fun x => x.add k) = p' := by
    have := congrArg (fun z : Result Value => match z with | .ok (.slice a _ _) _ => a | _ => none) e1
    exact this
  subst e2
  split at hx
  · cases p with
    | none => cases hx
    | some a => exact hx
  · cases p with
    | none => cases hx
    | some a =>
      have e3 : (Value.slice (some (a.add k)) (n - k) c').ownBlock = some (a.add k).block := rfl
      have hx' : (Value.slice (some (a.add k)) (n - k) c').ownBlock = some x := hx
      rw [e3, add_block] at hx'
      exact hx'

section
variable {w : World} {r : Nat} {R : Rd} {p : Option Addr} {n c : Nat}
end

end Go.Proofs.YtogdfkilhpkloaaGreatDoor

namespace Go.Sat.Rd
end Go.Sat.Rd
namespace Go.Proofs.YtogdfkilhpkloaaGreatDoor
open Go.RowKit Go.Sat Go.Maps

/-- Places that numbers may be laid into. -/
structure Places (w : World) (r : Nat) (ps : List Addr) : Prop where
  cell : ∀ a ∈ ps, ∃ z, w.cell? a = some (.int .i64 z)
  free : ∀ a ∈ ps, w.frozen? a = false
  ne : ∀ a ∈ ps, a.block ≠ r
  sp : ∀ a ∈ ps, a.spot = none

theorem Places.chg {w w' : World} {r : Nat} {ps : List Addr} (h : Places w r ps) (hc : Chg (fun k => k = r) w w') : Places w' r ps := by
  have hb : ∀ a ∈ ps, w'.heap[a.block]? = w.heap[a.block]? := fun a ha => by
    obtain ⟨z, hz⟩ := h.cell a ha
    exact hc.block _ (World.block_lt_of_cell? _ _ hz) (h.ne a ha)
  exact ⟨fun a ha => by obtain ⟨z, hz⟩ := h.cell a ha; exact ⟨z, (World.cell?_of_block (hb a ha)).trans hz⟩, fun a ha => by have := h.free a ha; simpa [World.frozen?, hb a ha] using this, h.ne, h.sp⟩

theorem Places.set {w : World} {r : Nat} {ps : List Addr} (h : Places w r ps) {a : Addr} (ha : a ∈ ps) (z : Int) : Places (w.setCell a (.int .i64 z)) r ps := by
  have hcell : ∀ b, w.cell? b ≠ none → (∃ y, (w.setCell a (.int .i64 z)).cell? b = some y ∧ (y = .int .i64 z ∨ w.cell? b = some y)) := fun b hb => by
    by_cases e : a = b
    · subst e
      exact ⟨.int .i64 z, by obtain ⟨z', hz⟩ := h.cell a ha; exact World.cell?_setCell_same w a _ hz, .inl rfl⟩
    · rw [World.cell?_setCell_other (h := e)]
      cases hc : w.cell? b with
      | none => exact absurd hc hb
      | some y => exact ⟨y, rfl, .inr rfl⟩
  refine ⟨fun b hb => ?_, fun b hb => by rw [World.frozen?_setCell]; exact h.free b hb, h.ne, h.sp⟩
  · obtain ⟨z', hz⟩ := h.cell b hb
    obtain ⟨y, hy, he⟩ := hcell b (by rw [hz]; simp)
    rcases he with rfl | he
    · exact ⟨z, hy⟩
    · rw [hz] at he
      cases he
      exact ⟨z', hy⟩

end Go.Proofs.YtogdfkilhpkloaaGreatDoor

namespace Go.Proofs.YtogdfkilhpkloaaGreatDoor
open Go.RowKit Go.Sat Go.Maps

def OpL (o : OpM) : List Value := [.int .i64 o.kind, .int .i64 o.client, .int .i64 o.seq, .string o.atK, .string o.atW, .string o.toK, .string o.toW, .int .i64 o.item, .int .i64 o.count, .int .i64 o.price, .bool o.buy, .int .i64 o.id]
def ReplyL : List Value := [.int .i64 0, .int .i64 0, .int .i64 0, .int .i64 0, .int .i64 0, .int .i64 0]
end Go.Proofs.YtogdfkilhpkloaaGreatDoor

namespace Go.Proofs.YtogdfkilhpkloaaGreatDoor
open Go.RowKit Go.Sat Go.Maps

def OpZL : List Value := [.int .i64 0, .int .i64 0, .int .i64 0, .string ⟨#[]⟩, .string ⟨#[]⟩, .string ⟨#[]⟩, .string ⟨#[]⟩, .int .i64 0, .int .i64 0, .int .i64 0, .bool false, .int .i64 0]
def DecA (b2 rb : Nat) (k : Nat) : Prop := b2 < k ∧ k < rb
/-- What op.Decode has made so far. -/
structure DecS (w W : World) (b0 b1 b2 rb : Nat) (o : OpM) (buy : Int) (R : Rd) : Prop where
  res : W.heap[b0]? = some (.cells OpZL.toArray 25 (0, 0))
  op : W.heap[b1]? = some (.cells (OpL o).toArray 25 (0, 0))
  buy : W.heap[b2]? = some (.cells #[.int .i64 buy] 3 (0, 0))
  rd : RdX (DecA b2 rb) W rb R
  l0 : w.heap.size ≤ b0
  l1 : b0 < b1
  l2 : b1 < b2
  l3 : b2 < rb
  bel : Below w.heap.size w W
section
variable {w W W' : World} {b0 b1 b2 rb : Nat} {o o' : OpM} {buy : Int} {R R' : Rd}
theorem DecS.read (h : DecS w W b0 b1 b2 rb o buy R) (hr : RdX (DecA b2 rb) W' rb R') (hc : Chg (fun k => k = rb) W W') : DecS w W' b0 b1 b2 rb o buy R' := by
  have l0 := h.l0
  have l1 := h.l1
  have l2 := h.l2
  have l3 := h.l3
  exact ⟨(hc.block b0 (lt_of_block h.res) (by omega)).trans h.res, (hc.block b1 (lt_of_block h.op) (by omega)).trans h.op, (hc.block b2 (lt_of_block h.buy) (by omega)).trans h.buy, hr, h.l0, h.l1, h.l2, h.l3, chgOne h.bel hc (by omega)⟩
theorem DecS.next (h : DecS w W b0 b1 b2 rb o buy R) (hb : Below W.heap.size W W') : DecS w W' b0 b1 b2 rb o buy R :=
  ⟨(hb.block b0 (lt_of_block h.res)).trans h.res, (hb.block b1 (lt_of_block h.op)).trans h.op, (hb.block b2 (lt_of_block h.buy)).trans h.buy, h.rd.chg (Chg.of_below hb) (fun e => e) (fun _ _ e => e), h.l0, h.l1, h.l2, h.l3, h.bel.trans (hb.mono h.bel.size)⟩
theorem DecS.put (h : DecS w W b0 b1 b2 rb o buy R) {i : Nat} {v : Value} (hL : (OpL o).set i v = OpL o') : DecS w (W.setCell ⟨b1, i, none⟩ v) b0 b1 b2 rb o' buy R := by
  have l0 := h.l0
  have l1 := h.l1
  have l2 := h.l2
  have l3 := h.l3
  have hc : Chg (fun k => k = b1) W (W.setCell ⟨b1, i, none⟩ v) := Chg.setCell W ⟨b1, i, none⟩ v
  exact ⟨(hc.block b0 (lt_of_block h.res) (by omega)).trans h.res, by rw [← hL]; exact set_blockL h.op i v, (hc.block b2 (lt_of_block h.buy) (by omega)).trans h.buy, h.rd.chg hc (by omega) (fun k hk e => by have := hk.1; omega), h.l0, h.l1, h.l2, h.l3, chgOne h.bel hc (by omega)⟩
end
end Go.Proofs.YtogdfkilhpkloaaGreatDoor

namespace Go.Proofs.YtogdfkilhpkloaaGreatDoor
open Go.RowKit Go.Sat Go.Maps

/-- A zone at work: F are blocks of the caller's, G blocks of the work's own. -/
structure DoS (w w1 : World) (z d eb l vm sm tm am : Nat) (h : HeadM) (pre : ByteArray) (D : DiskM) (M : LedM) (E : EcoR) (own : Nat → Option (Nat × Bs)) (ev : Value) (F G : Nat → Prop) (W : World) : Prop where
  led : LedF w W l d pre D M (fun k => F k ∨ k = z ∨ own k ≠ none ∨ ev.ownBlock = some k ∨ G k)
  zon : W.heap[z]? = some (ZoneO h eb l ev false)
  eco : EconIn W eb vm sm tm am E own
  same : ∀ k, F k → W.heap[k]? = w1.heap[k]?
  fz : ∀ k, F k → k ≠ z ∧ own k = none ∧ ev.ownBlock ≠ some k ∧ ¬ G k
  nz : own z = none
  ne : ∀ k, ev.ownBlock = some k → k ≠ z ∧ own k = none
  gz : ∀ k, G k → k ≠ z ∧ own k = none ∧ ev.ownBlock ≠ some k
  lz : w.heap.size ≤ z
  lo : ∀ k, own k ≠ none → w.heap.size ≤ k
  le : ∀ k, ev.ownBlock = some k → w.heap.size ≤ k
  lg : ∀ k, G k → w.heap.size ≤ k
section
variable {w w1 W W' : World} {z d eb l vm sm tm am : Nat} {h : HeadM} {pre : ByteArray} {D D' : DiskM} {M M' : LedM} {E E' : EcoR} {own own' : Nat → Option (Nat × Bs)} {ev ev' : Value} {F G G' : Nat → Prop}
theorem ZoneF.doS (hZ : ZoneF w w1 z d h pre D M E ev false F) : ∃ eb l vm sm tm am own, DoS w w1 z d eb l vm sm tm am h pre D M E own ev F NoF w1 := by
  obtain ⟨eb, l, vm, sm, tm, am, own, hL, hz, hE, h1, h2, h3, h4, h5, h6⟩ := hZ
  refine ⟨eb, l, vm, sm, tm, am, own, hL.less fun k hk => ?_, hz, hE, fun _ _ => rfl, fun k hk => ⟨(h1 k hk).1, (h1 k hk).2.1, (h1 k hk).2.2, fun e => e⟩, h2, h3, fun k hk => hk.elim, h4, h5, h6, fun k hk => hk.elim⟩
  rcases hk with hk | hk | hk | hk | hk
  · exact .inl hk
  · exact .inr (.inl hk)
  · exact .inr (.inr (.inl hk))
  · exact .inr (.inr (.inr hk))
  · exact hk.elim
theorem DoS.flt (hS : DoS w w1 z d eb l vm sm tm am h pre D M E own ev F G W) {k : Nat} (hk : F k ∨ k = z ∨ own k ≠ none ∨ ev.ownBlock = some k ∨ G k) : k < W.heap.size := hS.led.flt hk
/-- Something new; G' may have new blocks too. -/
theorem DoS.add (hS : DoS w w1 z d eb l vm sm tm am h pre D M E own ev F G W) (hb : Below W.heap.size W W') (hG : ∀ k, G' k → G k ∨ W.heap.size ≤ k ∧ k < W'.heap.size) : DoS w w1 z d eb l vm sm tm am h pre D M E own ev F G' W' := by
  have hw := hS.led.bel.size
  have hnew : ∀ k, W.heap.size ≤ k → k ≠ z ∧ own k = none ∧ ev.ownBlock ≠ some k := fun k hk => ⟨fun e => by have := hS.flt (.inr (.inl e)); omega, Classical.byContradiction fun hh => by have := hS.flt (.inr (.inr (.inl hh))); omega, fun e => by have := hS.flt (.inr (.inr (.inr (.inl e)))); omega⟩
  refine ⟨hS.led.more hb fun k hk => ?_, (hb.block z (lt_of_block hS.zon)).trans hS.zon, hS.eco.keep (fun k hk => hb.block k (hS.eco.oLt k hk)) hb.size, fun k hk => (hb.block k (hS.flt (.inl hk))).trans (hS.same k hk), fun k hk => ⟨(hS.fz k hk).1, (hS.fz k hk).2.1, (hS.fz k hk).2.2.1, fun e => ?_⟩, hS.nz, hS.ne, fun k hk => ?_, hS.lz, hS.lo, hS.le, fun k hk => ?_⟩
  · rcases hk with hk | hk | hk | hk | hk
    · exact .inl (.inl hk)
    · exact .inl (.inr (.inl hk))
    · exact .inl (.inr (.inr (.inl hk)))
    · exact .inl (.inr (.inr (.inr (.inl hk))))
    · exact (hG k hk).imp (fun e => .inr (.inr (.inr (.inr e)))) id
  · rcases hG k e with h1 | h1
    · exact (hS.fz k hk).2.2.2 h1
    · have := hS.flt (.inl hk)
      omega
  · rcases hG k hk with h1 | h1
    · exact hS.gz k h1
    · exact hnew k h1.1
  · rcases hG k hk with h1 | h1
    · exact hS.lg k h1
    · omega
theorem DoS.next (hS : DoS w w1 z d eb l vm sm tm am h pre D M E own ev F G W) (hb : Below W.heap.size W W') : DoS w w1 z d eb l vm sm tm am h pre D M E own ev F G W' := hS.add hb fun _ hk => .inl hk
/-- The economy has turned. -/
theorem DoS.turn (hS : DoS w w1 z d eb l vm sm tm am h pre D M E own ev F G W) (hE : EconIn W' eb vm sm tm am E' own') (hc : Chg (fun k => own k ≠ none) W W') (ho : ∀ k, k < W.heap.size → own' k = own k) : DoS w w1 z d eb l vm sm tm am h pre D M E' own' ev F G W' := by
  have hw := hS.led.bel.size
  have hk0 : ∀ k, own k = none → k < W.heap.size → W'.heap[k]? = W.heap[k]? := fun k h1 h2 => hc.block k h2 fun hh => hh h1
  refine ⟨hS.led.move hc (fun k hk hs => ⟨.inr (.inr (.inl hs)), hS.lo k hs⟩) (fun k hk => ?_), (hk0 z hS.nz (lt_of_block hS.zon)).trans hS.zon, hE, fun k hk => (hk0 k (hS.fz k hk).2.1 (hS.flt (.inl hk))).trans (hS.same k hk), fun k hk => ⟨(hS.fz k hk).1, (ho k (hS.flt (.inl hk))).trans (hS.fz k hk).2.1, (hS.fz k hk).2.2⟩, (ho z (lt_of_block hS.zon)).trans hS.nz, fun k hk => ⟨(hS.ne k hk).1, (ho k (hS.flt (.inr (.inr (.inr (.inl hk)))))).trans (hS.ne k hk).2⟩, fun k hk => ⟨(hS.gz k hk).1, (ho k (hS.flt (.inr (.inr (.inr (.inr hk)))))).trans (hS.gz k hk).2.1, (hS.gz k hk).2.2⟩, hS.lz, fun k hk => ?_, hS.le, hS.lg⟩
  · rcases hk with hk | hk | hk | hk | hk
    · exact ⟨.inl (.inl hk), Nat.lt_of_lt_of_le (hS.flt (.inl hk)) hc.size⟩
    · exact ⟨.inl (.inr (.inl hk)), Nat.lt_of_lt_of_le (hS.flt (.inr (.inl hk))) hc.size⟩
    · refine ⟨?_, hE.oLt k hk⟩
      by_cases h1 : k < W.heap.size
      · exact .inl (.inr (.inr (.inl (by rw [← ho k h1]; exact hk))))
      · exact .inr (by omega)
    · exact ⟨.inl (.inr (.inr (.inr (.inl hk)))), Nat.lt_of_lt_of_le (hS.flt (.inr (.inr (.inr (.inl hk))))) hc.size⟩
    · exact ⟨.inl (.inr (.inr (.inr (.inr hk)))), Nat.lt_of_lt_of_le (hS.flt (.inr (.inr (.inr (.inr hk))))) hc.size⟩
  · by_cases h1 : k < W.heap.size
    · exact hS.lo k (by rw [← ho k h1]; exact hk)
    · omega
/-- The zone's own cells have turned; its events may be new. -/
theorem DoS.set (hS : DoS w w1 z d eb l vm sm tm am h pre D M E own ev F G W) (hc : Chg (fun k => k = z) W W') (hz : W'.heap[z]? = some (ZoneO h eb l ev' false)) (he : ∀ k, ev'.ownBlock = some k → ev.ownBlock = some k ∨ W.heap.size ≤ k ∧ k < W'.heap.size) : DoS w w1 z d eb l vm sm tm am h pre D M E own ev' F G W' := by
  have hw := hS.led.bel.size
  have hnew : ∀ k, W.heap.size ≤ k → k ≠ z ∧ own k = none ∧ ¬ F k ∧ ¬ G k := fun k hk => ⟨fun e => by have := hS.flt (.inr (.inl e)); omega, Classical.byContradiction fun hh => by have := hS.flt (.inr (.inr (.inl hh))); omega, fun e => by have := hS.flt (.inl e); omega, fun e => by have := hS.flt (.inr (.inr (.inr (.inr e)))); omega⟩
  have hne : ∀ k, own k ≠ none → k ≠ z := fun k hk e => by rw [e] at hk; exact hk hS.nz
  refine ⟨hS.led.move hc (fun k hk hs => ⟨.inr (.inl hs), by rw [hs]; exact hS.lz⟩) (fun k hk => ?_), hz, hS.eco.keep (fun k hk => hc.block k (hS.eco.oLt k hk) (hne k hk)) hc.size, fun k hk => (hc.block k (hS.flt (.inl hk)) (hS.fz k hk).1).trans (hS.same k hk), fun k hk => ⟨(hS.fz k hk).1, (hS.fz k hk).2.1, fun e => ?_, (hS.fz k hk).2.2.2⟩, hS.nz, fun k hk => ?_, fun k hk => ⟨(hS.gz k hk).1, (hS.gz k hk).2.1, fun e => ?_⟩, hS.lz, hS.lo, fun k hk => ?_, hS.lg⟩
  · rcases hk with hk | hk | hk | hk | hk
    · exact ⟨.inl (.inl hk), Nat.lt_of_lt_of_le (hS.flt (.inl hk)) hc.size⟩
    · exact ⟨.inl (.inr (.inl hk)), Nat.lt_of_lt_of_le (hS.flt (.inr (.inl hk))) hc.size⟩
    · exact ⟨.inl (.inr (.inr (.inl hk))), Nat.lt_of_lt_of_le (hS.flt (.inr (.inr (.inl hk)))) hc.size⟩
    · rcases he k hk with h1 | h1
      · exact ⟨.inl (.inr (.inr (.inr (.inl h1)))), Nat.lt_of_lt_of_le (hS.flt (.inr (.inr (.inr (.inl h1))))) hc.size⟩
      · exact ⟨.inr h1.1, h1.2⟩
    · exact ⟨.inl (.inr (.inr (.inr (.inr hk)))), Nat.lt_of_lt_of_le (hS.flt (.inr (.inr (.inr (.inr hk))))) hc.size⟩
  · rcases he k e with h1 | h1
    · exact (hS.fz k hk).2.2.1 h1
    · exact (hnew k h1.1).2.2.1 hk
  · rcases he k hk with h1 | h1
    · exact hS.ne k h1
    · exact ⟨(hnew k h1.1).1, (hnew k h1.1).2.1⟩
  · rcases he k e with h1 | h1
    · exact (hS.gz k hk).2.2 h1
    · exact (hnew k h1.1).2.2.2 hk
  · rcases he k hk with h1 | h1
    · exact hS.le k h1
    · omega
end
end Go.Proofs.YtogdfkilhpkloaaGreatDoor

namespace Go.Proofs.YtogdfkilhpkloaaGreatDoor
open Go.RowKit Go.Sat Go.Maps

/-- What stays while a zone does a request. -/
structure DoK (w w1 : World) (z d eb l vm sm tm am : Nat) (h : HeadM) (pre : ByteArray) (D : DiskM) (M : LedM) (E : EcoR) (own : Nat → Option (Nat × Bs)) (ev : Value) (F G : Nat → Prop) (o : OpM) (b0 b4 : Nat) (W : World) : Prop where
  s : DoS w w1 z d eb l vm sm tm am h pre D M E own ev F G W
  op : W.heap[b0]? = some (.cells (OpL o).toArray 25 (0, 0))
  rep : W.heap[b4]? = some (.cells ReplyL.toArray 48 (0, 0))
  g0 : G b0
  g4 : G b4
section
variable {w w1 W W' : World} {z d eb l vm sm tm am : Nat} {h : HeadM} {pre : ByteArray} {D D' : DiskM} {M M' : LedM} {E E' : EcoR} {own own' : Nat → Option (Nat × Bs)} {ev ev' : Value} {F G G' : Nat → Prop} {o : OpM} {b0 b4 : Nat}
theorem DoK.add (hK : DoK w w1 z d eb l vm sm tm am h pre D M E own ev F G o b0 b4 W) (hb : Below W.heap.size W W') (hG : ∀ k, G' k → G k ∨ W.heap.size ≤ k ∧ k < W'.heap.size) (hG2 : ∀ k, G k → G' k) : DoK w w1 z d eb l vm sm tm am h pre D M E own ev F G' o b0 b4 W' :=
  ⟨hK.s.add hb hG, (hb.block _ (lt_of_block hK.op)).trans hK.op, (hb.block _ (lt_of_block hK.rep)).trans hK.rep, hG2 _ hK.g0, hG2 _ hK.g4⟩
theorem DoK.next (hK : DoK w w1 z d eb l vm sm tm am h pre D M E own ev F G o b0 b4 W) (hb : Below W.heap.size W W') : DoK w w1 z d eb l vm sm tm am h pre D M E own ev F G o b0 b4 W' := hK.add hb (fun _ hk => .inl hk) fun _ hk => hk
theorem DoK.drew (hK : DoK w w1 z d eb l vm sm tm am h pre D M E own ev F G o b0 b4 W) : DoK w w1 z d eb l vm sm tm am h pre D M E own ev F G o b0 b4 W.drew := hK.next ⟨rfl, rfl, rfl, Nat.le_refl _, fun _ _ => rfl⟩
theorem DoK.turn (hK : DoK w w1 z d eb l vm sm tm am h pre D M E own ev F G o b0 b4 W) (hE : EconIn W' eb vm sm tm am E' own') (hc : Chg (fun k => own k ≠ none) W W') (ho : ∀ k, k < W.heap.size → own' k = own k) : DoK w w1 z d eb l vm sm tm am h pre D M E' own' ev F G o b0 b4 W' :=
  ⟨hK.s.turn hE hc ho, (hc.block _ (lt_of_block hK.op) fun hh => hh (hK.s.gz _ hK.g0).2.1).trans hK.op, (hc.block _ (lt_of_block hK.rep) fun hh => hh (hK.s.gz _ hK.g4).2.1).trans hK.rep, hK.g0, hK.g4⟩
theorem DoK.set (hK : DoK w w1 z d eb l vm sm tm am h pre D M E own ev F G o b0 b4 W) (hc : Chg (fun k => k = z) W W') (hz : W'.heap[z]? = some (ZoneO h eb l ev' false)) (he : ∀ k, ev'.ownBlock = some k → ev.ownBlock = some k ∨ W.heap.size ≤ k ∧ k < W'.heap.size) : DoK w w1 z d eb l vm sm tm am h pre D M E own ev' F G o b0 b4 W' :=
  ⟨hK.s.set hc hz he, (hc.block _ (lt_of_block hK.op) (hK.s.gz _ hK.g0).1).trans hK.op, (hc.block _ (lt_of_block hK.rep) (hK.s.gz _ hK.g4).1).trans hK.rep, hK.g0, hK.g4⟩
theorem DoS.hit (hK : DoS w w1 z d eb l vm sm tm am h pre D M E own ev F G W) {q : Nat} (hc : Chg (fun k => k = q) W W') (hq : G q) : DoS w w1 z d eb l vm sm tm am h pre D M E own ev F G W' :=
  ⟨hK.led.move hc (fun k _ hs => ⟨.inr (.inr (.inr (.inr (by rw [hs]; exact hq)))), by rw [hs]; exact hK.lg _ hq⟩) (fun k hk => ⟨.inl hk, Nat.lt_of_lt_of_le (hK.flt hk) hc.size⟩), (hc.block z (lt_of_block hK.zon) fun e => (hK.gz _ hq).1 e.symm).trans hK.zon, hK.eco.keep (fun k hk => hc.block k (hK.eco.oLt k hk) fun e => hk (by rw [e]; exact (hK.gz _ hq).2.1)) hc.size, fun k hk => (hc.block k (hK.flt (.inl hk)) fun e => (hK.fz k hk).2.2.2 (by rw [e]; exact hq)).trans (hK.same k hk), hK.fz, hK.nz, hK.ne, hK.gz, hK.lz, hK.lo, hK.le, hK.lg⟩
theorem DoS.drop (hK : DoS w w1 z d eb l vm sm tm am h pre D M E own ev F G W) : DoS w w1 z d eb l vm sm tm am h pre D M E own ev F NoF W :=
  ⟨hK.led.less fun k hk => by
    rcases hk with hk | hk | hk | hk | hk
    · exact .inl hk
    · exact .inr (.inl hk)
    · exact .inr (.inr (.inl hk))
    · exact .inr (.inr (.inr (.inl hk)))
    · exact hk.elim, hK.zon, hK.eco, hK.same, fun k hk => ⟨(hK.fz k hk).1, (hK.fz k hk).2.1, (hK.fz k hk).2.2.1, fun e => e⟩, hK.nz, hK.ne, fun k hk => hk.elim, hK.lz, hK.lo, hK.le, fun k hk => hk.elim⟩
/-- A block of the work's own has turned. -/
theorem DoK.hit (hK : DoK w w1 z d eb l vm sm tm am h pre D M E own ev F G o b0 b4 W) {q : Nat} (hc : Chg (fun k => k = q) W W') (hq : G q) (h0 : b0 ≠ q) (h4 : b4 ≠ q) : DoK w w1 z d eb l vm sm tm am h pre D M E own ev F G o b0 b4 W' :=
  ⟨⟨hK.s.led.move hc (fun k _ hs => ⟨.inr (.inr (.inr (.inr (by rw [hs]; exact hq)))), by rw [hs]; exact hK.s.lg _ hq⟩) (fun k hk => ⟨.inl hk, Nat.lt_of_lt_of_le (hK.s.flt hk) hc.size⟩), (hc.block z (lt_of_block hK.s.zon) fun e => (hK.s.gz _ hq).1 e.symm).trans hK.s.zon, hK.s.eco.keep (fun k hk => hc.block k (hK.s.eco.oLt k hk) fun e => hk (by rw [e]; exact (hK.s.gz _ hq).2.1)) hc.size, fun k hk => (hc.block k (hK.s.flt (.inl hk)) fun e => (hK.s.fz k hk).2.2.2 (by rw [e]; exact hq)).trans (hK.s.same k hk), hK.s.fz, hK.s.nz, hK.s.ne, hK.s.gz, hK.s.lz, hK.s.lo, hK.s.le, hK.s.lg⟩, (hc.block _ (lt_of_block hK.op) h0).trans hK.op, (hc.block _ (lt_of_block hK.rep) h4).trans hK.rep, hK.g0, hK.g4⟩
end
end Go.Proofs.YtogdfkilhpkloaaGreatDoor

namespace Go.Proofs.YtogdfkilhpkloaaGreatDoor
open Go.RowKit Go.Sat Go.Maps

def RdzA (w : World) (rb k : Nat) : Prop := w.heap.size ≤ k ∧ k < rb
structure RdZ (w : World) (z rb : Nat) (L : List Value) (R : Rd) (W : World) : Prop where
  zon : W.heap[z]? = some (.cells L.toArray 101 (0, 0))
  rd : RdX (RdzA w rb) W rb R
  chg : Chg (fun k => k = z) w W
  lz : z < w.heap.size
  lr : w.heap.size ≤ rb
section
variable {w W W' : World} {z rb : Nat} {L : List Value} {R R' : Rd}
theorem RdZ.read (h : RdZ w z rb L R W) (hr : RdX (RdzA w rb) W' rb R') (hc : Chg (fun k => k = rb) W W') : RdZ w z rb L R' W' := by
  have l1 := h.lz
  have l2 := h.lr
  have h3 := h.chg.size
  exact ⟨(hc.block z (lt_of_block h.zon) (by omega)).trans h.zon, hr, ⟨hc.os.trans h.chg.os, hc.tape.trans h.chg.tape, hc.output.trans h.chg.output, Nat.le_trans h.chg.size hc.size, fun k hk hn => (hc.block k (by omega) (by omega)).trans (h.chg.block k hk hn)⟩, l1, l2⟩
theorem RdZ.next (h : RdZ w z rb L R W) (hb : Below W.heap.size W W') : RdZ w z rb L R W' :=
  ⟨(hb.block z (lt_of_block h.zon)).trans h.zon, h.rd.chg (Chg.of_below hb) (fun e => e) (fun _ _ e => e), h.chg.trans (Chg.of_below hb) (fun _ _ e => e.elim), h.lz, h.lr⟩
theorem RdZ.drew (h : RdZ w z rb L R W) : RdZ w z rb L R W.drew := h.next ⟨rfl, rfl, rfl, Nat.le_refl _, fun _ _ => rfl⟩
theorem RdZ.turn (h : RdZ w z rb L R W) {L' : List Value} (hc : Chg (fun k => k = z) W W') (hz : W'.heap[z]? = some (.cells L'.toArray 101 (0, 0))) : RdZ w z rb L' R W' := by
  have l1 := h.lz
  have l2 := h.lr
  exact ⟨hz, h.rd.chg hc (by omega) (fun k hk e => by have := hk.1; omega), h.chg.trans hc (fun _ _ e => e), l1, l2⟩
theorem RdZ.put (h : RdZ w z rb L R W) (i : Nat) (v : Value) : RdZ w z rb (L.set i v) R (W.setCell ⟨z, i, none⟩ v) := h.turn (Chg.setCell W ⟨z, i, none⟩ v) (set_blockL h.zon i v)
end
end Go.Proofs.YtogdfkilhpkloaaGreatDoor

namespace Go.Proofs.YtogdfkilhpkloaaGreatDoor
open Go.RowKit Go.Sat Go.Maps

theorem run_all {P : Program} (w : World) {t e : TypeId} {i : TypeInfo} (ht : P.underlying t = some (.slice e)) (hi : P.info? e = some i) (p : Option Addr) (len cap b : Nat) (h2 : b ≤ cap) :
    (Instr.slice t (.slice p len cap) (some (.int .i64 0)) (some (.int .i64 (b : Int))) none).run P w = .ok (.slice p b cap) w := by
  have h1 : (Instr.sliceBound (.int .i64 (b : Int)) cap .sliceAcap).run P w = .ok b w := by
    rw [run_sliceBound _ _ _ _ _ (by omega) (by omega)]
    simp
  have h3 : (Instr.sliceBound (.int .i64 0) b .sliceB).run P w = .ok 0 w := by
    rw [run_sliceBound _ _ _ _ _ (by omega) (by omega)]
    simp
  have h4 : (if cap = 0 then p else p.map fun x => x.add (0 * i.size)) = p := by
    split
    · rfl
    · cases p <;> simp [Addr.add]
  simp only [Nat.zero_mul] at h4
  simp [Instr.slice, run_underlying ht, Instr.sliceBounds, h1, h3, sizeOf, typeInfo, hi, Result.andThen, h4]
def OutO (p : Option Addr) (n c : Nat) (told : Int) : Obj := .cells #[.slice p n c, .int .i64 told] 304 (0, 0)
/-- An Out in memory: its bytes lie in a block of their own. -/
structure OutIn (w : World) (b : Nat) (p : Option Addr) (n c : Nat) (l : Bs) (told : Int) : Prop where
  cells : w.heap[b]? = some (OutO p n c told)
  row : OwnB w 5 (.slice p n c) l
  len : n = l.length
  ne : ∀ k, (Value.slice p n c).ownBlock = some k → k ≠ b
theorem OutIn.keep {w w' : World} {b : Nat} {p : Option Addr} {n c : Nat} {l : Bs} {told : Int} (h : OutIn w b p n c l told) (hs : ∀ k, k = b ∨ (Value.slice p n c).ownBlock = some k → w'.heap[k]? = w.heap[k]?) : OutIn w' b p n c l told :=
  ⟨(hs b (.inl rfl)).trans h.cells, OwnR.keep h.row fun k hk => hs k (.inr hk), h.len, h.ne⟩
set_option maxHeartbeats 1000000 in
theorem pnew_calls {w : World} {x : Value} {l : Bs} (h : HasB w x l) (hl : l.length ≤ 140737488355328) (n : Nat) (hn : n = l.length) : Calls Tryz.prog 140 #[x] w fun e w' => ∃ b p c, e = .returned (.pointer (some ⟨b, 0, none⟩)) ∧ OutIn w' b p n c l 0 ∧ n ≤ c ∧ w.heap.size ≤ b ∧ (∀ k, (Value.slice p n c).ownBlock = some k → w.heap.size ≤ k) ∧ Below w.heap.size w w' := by
  have Hc := Lib.hid (clone_calls h hl)
  clear h
  go_enter Tryz.func140, Tryz.ntmps140
  go_wp2_with fail
  refine Hc.out.mono ?_
  rintro e w2 ⟨v, rfl, hv, hvn, hb⟩
  obtain ⟨p, c, rfl, hcap⟩ := own_cap0 hv
  rw [← hn] at hv hcap hvn ⊢
  have hno := new_block w2 (OutO p n c 0)
  have hbo := box_below w2 (OutO p n c 0)
  have HE := Lib.hid (show OutIn (w2.alloc (OutO p n c 0)) w2.heap.size p n c l 0 ∧ n ≤ c ∧ w.heap.size ≤ w2.heap.size ∧ (∀ k, (Value.slice p n c).ownBlock = some k → w.heap.size ≤ k) ∧ Below w.heap.size w (w2.alloc (OutO p n c 0)) from
    ⟨⟨hno, OwnR.keep hv fun k hk => hbo.block k (OwnR.lt hv hk), hn, fun k hk e => by have := OwnR.lt hv hk; omega⟩, hcap, hb.size, hvn, hb.trans (hbo.mono hb.size)⟩)
  unfold OutO at HE
  clear hv hvn hb hno hbo Hc hcap hn
  go_wp2_with fail
  go_ret
  exact ⟨_, p, c, rfl, HE.out⟩
set_option maxHeartbeats 1000000 in
theorem psize_calls {w : World} {b n c : Nat} {p : Option Addr} {told : Int} (h : w.heap[b]? = some (OutO p n c told)) : Calls Tryz.prog 141 #[.pointer (some ⟨b, 0, none⟩)] w fun e w' => e = .returned (.int .i64 (n : Int)) ∧ w' = w := by
  have c0 := cell_of h (i := 0) (v := .slice p n c) rfl
  clear h
  go_enter Tryz.func141, Tryz.ntmps141
  go_wp2_with fail
  go_ret
  exact ⟨rfl, rfl⟩
set_option maxRecDepth 100000 in
set_option maxHeartbeats 4000000 in
theorem pnext_calls {w : World} {b n c : Nat} {p : Option Addr} {l : Bs} (h : OutIn w b p n c l 0) (hn : n ≤ 512) (hc : n ≤ c) : Calls Tryz.prog 142 #[.pointer (some ⟨b, 0, none⟩)] w fun e w' => ∃ p' c', e = .returned (.tuple #[.int .i64 0, .slice p' n c']) ∧ OwnB w' 5 (.slice p' n c') l ∧ (∀ k, (Value.slice p' n c').ownBlock = some k → w.heap.size ≤ k) ∧ Below w.heap.size w w' := by
  obtain ⟨i0, hi, hz0, hz1, hz2⟩ := info_parts (show (Tryz.prog.info? 5).map (fun i => (i.zero, i.size, i.bytes)) = some (some (.int .u8 0), 1, 1) by kernel_rfl)
  have hsl := fun W : World => run_all (P := Tryz.prog) W (t := 39) Tryz.underlying39 hi p n c n hc
  have hmin : min (n : Int) 512 = n := by omega
  have HC := Lib.hid (fun (W : World) (hb : Below w.heap.size w W) => clone_calls (w := W) (x := .slice p n c) (l := l) (HasB.below (OwnB.has h.row) hb) (by have := h.len; omega))
  have H := Lib.hid h
  clear h hi hz0 hz1 hz2
  have c0 := cell_of H.out.cells (i := 0) (v := .slice p n c) rfl
  have c1 := cell_of H.out.cells (i := 1) (v := .int .i64 0) rfl
  go_enter Tryz.func142, Tryz.ntmps142
  go_upto_region 3 with (fail)
  try simp only [Act.put, uA, uB, uC]
  refine ord_start (fun W : World => W.cell? ⟨b, 0, none⟩ = some (.slice p n c) ∧ W.cell? ⟨b, 1, none⟩ = some (.int .i64 0)) (n := 27) (by kernel_rfl) rfl ⟨c0, c1⟩ (fun hHeld => ?_)
  have HB := Lib.hid (below_drew w)
  clear c0 c1
  generalize w.drew = w2 at *
  refine Pl [0, 1, 2, 3, 4, 5, 6, 7, 8, 9, 10, 11, 12, 13, 14, 15, 16, 17, 18, 19, 20, 21, 22, 23] ?_
  iterate 21 (refine Pd rfl (by intro w' hSw; have d0 := hSw.1; have d1 := hSw.2; go_simp; try with_reducible rfl) ?_; simp only [Act.put, uA, uB, uC])
  refine Pd (v := .int .i64 512) rfl (by intro w' hSw; kernel_rfl) ?_
  simp only [Act.put, uA, uB, uC]
  refine Pd (v := .int .i64 (n : Int)) rfl (by intro w' hSw; go_simp; try with_reducible rfl) ?_
  simp only [Act.put, uA, uB, uC]
  refine Pd (v := .slice p n c) rfl (by intro w' hSw; have d := hsl w'; go_simp; try with_reducible rfl) ?_
  simp only [Act.put, uA, uB, uC]
  refine Pn ?_
  have HCl := Lib.hid (HC.out w2 HB.out)
  refine ord_one 24 rfl (by kernel_rfl) (by rfl) (fun K hK => ?_)
  go_wp2_with fail
  refine HCl.out.mono ?_
  rintro e w3 ⟨v, rfl, hv, hvn, hb⟩
  obtain ⟨p', c', rfl⟩ := hv.slice
  rw [← H.out.len] at hv hvn ⊢
  have HE := Lib.hid (And.intro hv (And.intro (fun k hk => Nat.le_trans HB.out.size (hvn k hk)) (HB.out.trans (hb.mono HB.out.size))))
  have hS3 : w3.cell? ⟨b, 0, none⟩ = some (.slice p n c) ∧ w3.cell? ⟨b, 1, none⟩ = some (.int .i64 0) := ⟨hb.cell (World.block_lt_of_cell? _ _ hHeld.1) |>.trans hHeld.1, hb.cell (World.block_lt_of_cell? _ _ hHeld.2) |>.trans hHeld.2⟩
  clear hv hvn hb hHeld HCl HC
  go_wp2_with fail
  refine hK.out _ _ hS3 (fun hHeld => ?_)
  clear hK hS3
  try simp only [Act.put, uA, uB, uC]
  refine Pl [25, 26] ?_
  iterate 2 (refine Pc rfl ?_; simp only [Act.put, uA, uB, uC])
  refine Pn ?_
  refine wpAnyH_done (by kernel_rfl) ?_ _
  clear hHeld
  go_wp2_with fail
  go_ret2
  exact ⟨p', c', rfl, HE.out⟩
set_option maxRecDepth 100000 in
set_option maxHeartbeats 4000000 in
/-- All of it has come. -/
theorem pack_calls {w : World} {b n c : Nat} {p : Option Addr} (h : w.heap[b]? = some (OutO p n c 0)) (hn : 1 ≤ n) : Calls Tryz.prog 143 #[.pointer (some ⟨b, 0, none⟩), .int .i64 (n : Int)] w fun e w' => e = .returned (.bool true) ∧ w'.heap[b]? = some (OutO p n c (n : Int)) ∧ Chg (fun k => k = b) w w' := by
  have c0 := cell_of h (i := 0) (v := .slice p n c) rfl
  have c1 := cell_of h (i := 1) (v := .int .i64 0) rfl
  have f1 := frozen_of h 1
  have HE := Lib.hid (And.intro (show (w.setCell ⟨b, 1, none⟩ (.int .i64 (n : Int))).heap[b]? = some (OutO p n c (n : Int)) from set_block h 1 _) (Chg.setCell w ⟨b, 1, none⟩ (.int .i64 (n : Int))))
  clear h
  go_enter Tryz.func143, Tryz.ntmps143
  go_wp2_with fail
  go_ret
  exact ⟨rfl, HE.out⟩
set_option maxRecDepth 100000 in
set_option maxHeartbeats 4000000 in
theorem pdone_calls {w : World} {b n c : Nat} {p : Option Addr} (h : w.heap[b]? = some (OutO p n c (n : Int))) : Calls Tryz.prog 144 #[.pointer (some ⟨b, 0, none⟩)] w fun e w' => e = .returned (.bool true) ∧ Below w.heap.size w w' := by
  have c0 := cell_of h (i := 0) (v := .slice p n c) rfl
  have c1 := cell_of h (i := 1) (v := .int .i64 (n : Int)) rfl
  clear h
  go_enter Tryz.func144, Tryz.ntmps144
  go_upto_region 1 with (fail)
  try simp only [Act.put, uA, uB, uC]
  refine ord_start (fun W : World => W.cell? ⟨b, 0, none⟩ = some (.slice p n c) ∧ W.cell? ⟨b, 1, none⟩ = some (.int .i64 (n : Int))) (n := 15) (by kernel_rfl) rfl ⟨c0, c1⟩ (fun hHeld => ?_)
  have HB := Lib.hid (below_drew w)
  clear c0 c1
  generalize w.drew = w2 at *
  refine Pl [0, 1, 2, 3, 4, 5, 6, 7, 8, 9, 10, 11, 12, 13, 14] ?_
  iterate 15 (refine Pd rfl (by intro w' hSw; have d0 := hSw.1; have d1 := hSw.2; go_simp; try with_reducible rfl) ?_; simp only [Act.put, uA, uB, uC])
  refine Pn ?_
  refine wpAnyH_done (by kernel_rfl) ?_ _
  clear hHeld
  go_wp2_with fail
  go_ret
  exact ⟨rfl, HB.out⟩
end Go.Proofs.YtogdfkilhpkloaaGreatDoor

namespace Go.Proofs.YtogdfkilhpkloaaGreatDoor
open Go.RowKit Go.Sat Go.Maps

/-- The word's cells. -/
def W7L (p : Option Addr) (c : Nat) : List Value := [.int .i64 7, .int .i64 3, .int .i64 2, .int .i64 1, .int .i64 4, .int .i64 0, .int .i64 0, .int .i64 0, .string ⟨#[]⟩, .string ⟨#[]⟩, .int .i64 0, .int .i64 0, .int .i64 0, .string ⟨#[]⟩, .string ⟨#[]⟩, .string ⟨#[]⟩, .string ⟨#[]⟩, .int .i64 0, .int .i64 0, .int .i64 0, .bool false, .int .i64 0, .int .i64 0, .int .i64 0, .int .i64 0, .int .i64 0, .int .i64 0, .int .i64 0, .int .i64 0, .int .i64 0, .slice none 0 0, .int .i64 0, .int .i64 0, .int .i64 0, .int .i64 0, .string ⟨#[]⟩, .slice p 4 c]
end Go.Proofs.YtogdfkilhpkloaaGreatDoor

namespace Go.Proofs.YtogdfkilhpkloaaGreatDoor
open Go.RowKit Go.Sat Go.Maps

def W0L : List Value := [.int .i64 0, .int .i64 0, .int .i64 0, .int .i64 0, .int .i64 0, .int .i64 0, .int .i64 0, .int .i64 0, .string ⟨#[]⟩, .string ⟨#[]⟩, .int .i64 0, .int .i64 0, .int .i64 0, .string ⟨#[]⟩, .string ⟨#[]⟩, .string ⟨#[]⟩, .string ⟨#[]⟩, .int .i64 0, .int .i64 0, .int .i64 0, .bool false, .int .i64 0, .int .i64 0, .int .i64 0, .int .i64 0, .int .i64 0, .int .i64 0, .int .i64 0, .int .i64 0, .int .i64 0, .slice none 0 0, .int .i64 0, .int .i64 0, .int .i64 0, .int .i64 0, .string ⟨#[]⟩, .slice none 0 0]
theorem W0L_one : ∀ v ∈ W0L, v.oneCell' = true := by
  intro v hv
  unfold W0L at hv
  simp only [List.mem_cons, List.not_mem_nil, or_false] at hv
  rcases hv with rfl | rfl | rfl | rfl | rfl | rfl | rfl | rfl | rfl | rfl | rfl | rfl | rfl | rfl | rfl | rfl | rfl | rfl | rfl | rfl | rfl | rfl | rfl | rfl | rfl | rfl | rfl | rfl | rfl | rfl | rfl | rfl | rfl | rfl | rfl | rfl | rfl <;> rfl
theorem chg_one {w w1 w2 : World} {b : Nat} (h : Below w.heap.size w w1) (hc : Chg (fun k => k = b) w1 w2) (hb : w.heap.size ≤ b) : Below w.heap.size w w2 :=
  (((Chg.of_below h).mono fun _ _ e => e.elim : Chg (fun k => k = b) w w1).trans hc fun _ _ e => e).below (Nat.le_refl _) fun k hk e => by omega
end Go.Proofs.YtogdfkilhpkloaaGreatDoor

namespace Go.Proofs.YtogdfkilhpkloaaGreatDoor
open Go.RowKit Go.Sat Go.Maps

def H3 : HeadM := ⟨3, ⟨#[]⟩, ⟨#[]⟩, 2, 3⟩
/-- Something else has turned: blocks of F that are new since w; what is new may be in F' too. -/
theorem ZoneF.move {w w1 w2 : World} {z d : Nat} {h : HeadM} {pre : ByteArray} {D : DiskM} {M : LedM} {E : EcoR} {ev : Value} {dead : Bool} {F F' S : Nat → Prop} (hZ : ZoneF w w1 z d h pre D M E ev dead F) (hc : Chg S w1 w2) (hS : ∀ k, k < w1.heap.size → S k → F k ∧ w.heap.size ≤ k) (hF : ∀ k, F' k → (F k ∨ w1.heap.size ≤ k) ∧ k < w2.heap.size) : ZoneF w w2 z d h pre D M E ev dead F' := by
  obtain ⟨eb, l, vm, sm, tm, am, own, hL, hz, hE, h1, h2, h3, h4, h5, h6⟩ := hZ
  have hzl := lt_of_block hz
  have hS' : ∀ k, k < w1.heap.size → S k → F k := fun k hk hs => (hS k hk hs).1
  have hel : ∀ k, ev.ownBlock = some k → k < w1.heap.size := fun k hk => hL.flt (.inr (.inr (.inr hk)))
  refine ⟨eb, l, vm, sm, tm, am, own, hL.move hc (fun k hk hs => ⟨.inl (hS' k hk hs), (hS k hk hs).2⟩) (fun k hk => ?_), (hc.block z hzl fun hs => (h1 z (hS' z hzl hs)).1 rfl).trans hz, hE.keep (fun k hk => hc.block k (hE.oLt k hk) fun hs => hk (h1 k (hS' k (hE.oLt k hk) hs)).2.1) hc.size, fun k hk => ?_, h2, h3, h4, h5, h6⟩
  · rcases hk with hk | rfl | hk | hk
    · exact ⟨(hF k hk).1.imp .inl id, (hF k hk).2⟩
    · exact ⟨.inl (.inr (.inl rfl)), Nat.lt_of_lt_of_le hzl hc.size⟩
    · exact ⟨.inl (.inr (.inr (.inl hk))), Nat.lt_of_lt_of_le (hE.oLt k hk) hc.size⟩
    · exact ⟨.inl (.inr (.inr (.inr hk))), Nat.lt_of_lt_of_le (hel k hk) hc.size⟩
  · rcases (hF k hk).1 with hk | hk
    · exact h1 k hk
    · refine ⟨by omega, Classical.byContradiction fun hh => ?_, fun e => ?_⟩
      · have := hE.oLt k hh
        omega
      · have := hel k e
        omega
/-- What stays while a piece is taken. -/
structure CopS (w1 : World) (tb b2 : Nat) (p : Option Addr) (c : Nat) (T : Obj) (W : World) : Prop where
  k : W.heap[w1.heap.size]? = some (.cells (W7L p c).toArray 70 (0, 0))
  z : W.heap[b2]? = some (.cells W0L.toArray 70 (0, 0))
  t : W.heap[tb]? = some T
  chg : Chg (fun k => k = tb) w1 W
  lt1 : tb < w1.heap.size
  lt2 : w1.heap.size < b2
theorem CopS.chg' {w1 : World} {tb b2 : Nat} {p : Option Addr} {c : Nat} {T T' : Obj} {W W' : World} {S : Nat → Prop} (h : CopS w1 tb b2 p c T W) (hc : Chg S W W') (h1 : ¬ S w1.heap.size) (h2 : ¬ S b2) (ht : W'.heap[tb]? = some T') (h3 : ∀ k, k < w1.heap.size → S k → k = tb) : CopS w1 tb b2 p c T' W' :=
  ⟨(hc.block _ (lt_of_block h.k) h1).trans h.k, (hc.block _ (lt_of_block h.z) h2).trans h.z, ht, h.chg.trans hc h3, h.lt1, h.lt2⟩
theorem CopS.next {w1 : World} {tb b2 : Nat} {p : Option Addr} {c : Nat} {T : Obj} {W W' : World} (h : CopS w1 tb b2 p c T W) (hb : Below W.heap.size W W') : CopS w1 tb b2 p c T W' :=
  h.chg' (Chg.of_below hb) (fun e => e.elim) (fun e => e.elim) ((hb.block tb (lt_of_block h.t)).trans h.t) fun _ _ e => e.elim
theorem CopS.set {w1 : World} {tb b2 : Nat} {p : Option Addr} {c : Nat} {T T' : Obj} {W W' : World} (h : CopS w1 tb b2 p c T W) (hc : Chg (fun k => k = tb) W W') (ht : W'.heap[tb]? = some T') : CopS w1 tb b2 p c T' W' := by
  have h1 := h.lt1
  have h2 := h.lt2
  exact h.chg' hc (by omega) (by omega) ht fun _ _ e => e
theorem CopS.own {w1 : World} {tb b2 pb : Nat} {p : Option Addr} {c : Nat} {T : Obj} {W W' : World} (h : CopS w1 tb b2 p c T W) (hc : Chg (fun k => k = pb) W W') (hp : w1.heap.size < pb) (hp2 : b2 < pb) : CopS w1 tb b2 p c T W' := by
  have h1 := h.lt1
  exact h.chg' hc (by omega) (by omega) ((hc.block tb (lt_of_block h.t) (by omega)).trans h.t) fun k hk e => by omega
end Go.Proofs.YtogdfkilhpkloaaGreatDoor

namespace Go.Proofs.YtogdfkilhpkloaaGreatDoor
open Go.RowKit Go.Sat Go.Maps

set_option maxRecDepth 100000 in
set_option maxHeartbeats 4000000 in
theorem zhead_calls {w : World} {z eb l : Nat} {h : HeadM} {ev : Value} {dead : Bool} (hz : w.heap[z]? = some (ZoneO h eb l ev dead)) : Calls Tryz.prog 27 #[.pointer (some ⟨z, 0, none⟩)] w fun e w' => e = .returned (.agg #[.int .i64 h.id, .string h.fr, .string h.tu, .int .i64 h.epoch, .int .i64 h.state]) ∧ Below w.heap.size w w' := by
  obtain ⟨id, fr, tu, ep, st⟩ := h
  have hN := new_block w (.cells #[.int .i64 0, .string ⟨#[]⟩, .string ⟨#[]⟩, .int .i64 0, .int .i64 0] 35)
  have hB := box_below w (.cells #[.int .i64 0, .string ⟨#[]⟩, .string ⟨#[]⟩, .int .i64 0, .int .i64 0] 35)
  have hz' := (hB.block z (lt_of_block hz)).trans hz
  have HB := Lib.hid hB
  have c0 := cell_of hz' (i := 0) (v := .int .i64 id) rfl
  have c1 := cell_of hz' (i := 1) (v := .string fr) rfl
  have c2 := cell_of hz' (i := 2) (v := .string tu) rfl
  have c3 := cell_of hz' (i := 3) (v := .int .i64 ep) rfl
  have c4 := cell_of hz' (i := 4) (v := .int .i64 st) rfl
  clear hz hB hz'
  dsimp only
  go_enter Tryz.func27, Tryz.ntmps27
  go_wp2_with (refine bstoreAt rfl 35 (.tmp 2) (.tmp 9) rfl w.heap.size 0 rfl rfl [.int .i64 id, .string fr, .string tu, .int .i64 ep, .int .i64 st] rfl hN (by simp) (by kernel_rfl) (by intro v hv; simp only [List.mem_cons, List.not_mem_nil, or_false] at hv; rcases hv with rfl | rfl | rfl | rfl | rfl <;> rfl) ?_; intro w2 h2 hc2; have H2 := Lib.hid (And.intro h2 hc2); clear h2 hc2)
  refine bodyPost_ret (results_cell_row rfl _ _ w.heap.size _ _ (0, 0) _ rfl H2.out.1 Tryz.underlying35 rfl (by kernel_rfl)) rfl ?_
  exact ⟨rfl, chg_one HB.out H2.out.2 (Nat.le_refl _)⟩
section
variable {w w1 : World} {z d : Nat} {h : HeadM} {pre : ByteArray} {D : DiskM} {M : LedM} {E : EcoR} {ev : Value} {dead : Bool} {F : Nat → Prop}
set_option maxHeartbeats 1000000 in
theorem zlast_calls (hZ : ZoneF w w1 z d h pre D M E ev dead F) {m : Nat} (hm : M.last = m) : Calls Tryz.prog 16 #[.pointer (some ⟨z, 0, none⟩)] w1 fun e w' => e = .returned (.int .i64 (m : Int)) ∧ ∃ q, w' = w1.drewN q := by
  obtain ⟨eb, l, vm, sm, tm, am, own, hL, hz, -⟩ := hZ
  have HL := Lib.hid (last_calls hL)
  rw [hm] at HL
  have c6 := cell_of hz (i := 6) (v := .pointer (some ⟨l, 0, none⟩)) rfl
  clear hL hz hm
  go_enter Tryz.func16, Tryz.ntmps16
  go_wp2_with fail
  refine HL.out.mono ?_
  rintro e w2 ⟨rfl, q, rfl⟩
  go_wp2_with fail
  go_ret
  exact ⟨rfl, q, rfl⟩
theorem ZoneF.next (hZ : ZoneF w w1 z d h pre D M E ev dead F) {w2 : World} (hb : Below w1.heap.size w1 w2) : ZoneF w w2 z d h pre D M E ev dead F :=
  hZ.move (Chg.of_below hb) (fun _ _ e => e.elim) fun k hk => ⟨.inl hk, by obtain ⟨_, _, _, _, _, _, _, hL, _⟩ := hZ; exact Nat.lt_of_lt_of_le (hL.flt (.inl hk)) hb.size⟩
theorem ZoneF.bel (hZ : ZoneF w w1 z d h pre D M E ev dead F) : Below w.heap.size w w1 := by
  obtain ⟨_, _, _, _, _, _, _, hL, _⟩ := hZ
  exact hL.bel
end
end Go.Proofs.YtogdfkilhpkloaaGreatDoor

namespace Go.Proofs.YtogdfkilhpkloaaGreatDoor
open Go.RowKit Go.Sat Go.Maps

/-- The cells of events: of requests that stand behind number b. -/
def evL (id : Int) : Nat → List OpM → List Value
  | _, [] => []
  | b, o :: r => (.int .i64 id :: .int .i64 ((b + 1 : Nat) : Int) :: OpL o) ++ evL id (b + 1) r
/-- A zone's events. -/
def EvR (W : World) (h : HeadM) (b : Nat) (os : List OpM) (ev : Value) : Prop := if h.state = 3 then ev = .slice none 0 0 else OwnR W 120 14 ev os.length (evL h.id b os)
theorem EvR.nil (W : World) (h : HeadM) (b : Nat) : EvR W h b [] (.slice none 0 0) := by
  unfold EvR
  split
  · rfl
  · exact OwnR.nil _ _ _
theorem EvR.keep {W W' : World} {h : HeadM} {b : Nat} {os : List OpM} {ev : Value} (he : EvR W h b os ev) (hs : ∀ k, ev.ownBlock = some k → W'.heap[k]? = W.heap[k]?) : EvR W' h b os ev := by
  unfold EvR at *
  split
  · rename_i h3
    rwa [if_pos h3] at he
  · rename_i h3
    rw [if_neg h3] at he
    exact OwnR.keep he hs
/-- What is decoded: an economy of which Q says what it is, in blocks from B on. -/
def PEq (Q : EcoR → Prop) (B : Nat) (W : World) (eb : Nat) : Prop := ∃ vm sm tm am E own, EconIn W eb vm sm tm am E own ∧ (∀ k, own k ≠ none → B ≤ k) ∧ Q E
theorem PEq.keep {Q : EcoR → Prop} (B : Nat) (W W' : World) (eb : Nat) (h : PEq Q B W eb) (hs : ∀ k, B ≤ k → k < W.heap.size → W'.heap[k]? = W.heap[k]?) (hz : W.heap.size ≤ W'.heap.size) : PEq Q B W' eb := by
  obtain ⟨vm, sm, tm, am, E, own, hE, ho, hq⟩ := h
  exact ⟨vm, sm, tm, am, E, own, hE.keep (fun k hk => hs k (ho k hk) (hE.oLt k hk)) hz, ho, hq⟩
section
variable {w w1 W W' : World} {z d eb l vm sm tm am : Nat} {h : HeadM} {pre : ByteArray} {D D' : DiskM} {M M' : LedM} {E E' : EcoR} {own own' : Nat → Option (Nat × Bs)} {ev ev' : Value} {F G G' : Nat → Prop}
theorem DoS.zoneF (hS : DoS w w1 z d eb l vm sm tm am h pre D M E own ev F G W) : ZoneF w W z d h pre D M E ev false F :=
  ⟨eb, l, vm, sm, tm, am, own, hS.led.less fun k hk => by
    rcases hk with hk | hk | hk | hk
    · exact .inl hk
    · exact .inr (.inl hk)
    · exact .inr (.inr (.inl hk))
    · exact .inr (.inr (.inr (.inl hk))), hS.zon, hS.eco, fun k hk => ⟨(hS.fz k hk).1, (hS.fz k hk).2.1, (hS.fz k hk).2.2.1⟩, hS.nz, hS.ne, hS.lz, hS.lo, hS.le⟩
end
end Go.Proofs.YtogdfkilhpkloaaGreatDoor

namespace Go.Proofs.YtogdfkilhpkloaaGreatDoor
open Go.RowKit Go.Sat Go.Maps

set_option maxHeartbeats 2000000 in
theorem zimage0_calls {w : World} {z eb l vm sm tm am : Nat} {h : HeadM} {ev : Value} {dead : Bool} {own : Nat → Option (Nat × Bs)} (hz : w.heap[z]? = some (ZoneO h eb l ev dead)) (hE : EconIn w eb vm sm tm am E0 own) : Calls Tryz.prog 21 #[.pointer (some ⟨z, 0, none⟩)] w (NewR w [0, 0, 0, 0]) := by
  have c5 := cell_of hz (i := 5) (v := .pointer (some ⟨eb, 0, none⟩)) rfl
  have HE := Lib.hid (encode0_calls hE)
  clear hz hE
  go_enter Tryz.func21, Tryz.ntmps21
  go_wp2_with fail
  refine HE.out.mono ?_
  rintro e w2 ⟨v, rfl, hv⟩
  have HV := Lib.hid hv
  clear hv HE
  go_wp2_with fail
  go_ret
  exact ⟨v, rfl, HV.out⟩
def SrcO (z : Nat) (ep : Int) (img : Value) (idx : Int) (out : Value) (come : Bool) (sure : Int) : Obj := .cells #[.pointer (some ⟨z, 0, none⟩), .int .i64 ep, img, .int .i64 idx, out, .bool come, .int .i64 sure] 135 (0, 0)
/-- A zone that is read, and a Source's block. -/
structure SrS (w w1 : World) (z d eb l vm sm tm am : Nat) (h : HeadM) (pre : ByteArray) (D : DiskM) (M : LedM) (own : Nat → Option (Nat × Bs)) (ev : Value) (G : Nat → Prop) (sb : Nat) (so : Obj) (W : World) : Prop where
  s : DoS w w1 z d eb l vm sm tm am h pre D M E0 own ev NoF G W
  src : W.heap[sb]? = some so
  g : G sb
section
variable {w w1 W W' : World} {z d eb l vm sm tm am : Nat} {h : HeadM} {pre : ByteArray} {D : DiskM} {M : LedM} {own : Nat → Option (Nat × Bs)} {ev : Value} {G G' : Nat → Prop} {sb : Nat} {so so' : Obj}
theorem SrS.next (hS : SrS w w1 z d eb l vm sm tm am h pre D M own ev G sb so W) (hb : Below W.heap.size W W') : SrS w w1 z d eb l vm sm tm am h pre D M own ev G sb so W' := ⟨hS.s.next hb, (hb.block _ (lt_of_block hS.src)).trans hS.src, hS.g⟩
theorem SrS.turn (hS : SrS w w1 z d eb l vm sm tm am h pre D M own ev G sb so W) (hc : Chg (fun k => k = sb) W W') (hs : W'.heap[sb]? = some so') : SrS w w1 z d eb l vm sm tm am h pre D M own ev G sb so' W' := ⟨hS.s.hit hc hS.g, hs, hS.g⟩
theorem SrS.add (hS : SrS w w1 z d eb l vm sm tm am h pre D M own ev G sb so W) (hb : Below W.heap.size W W') (hG : ∀ k, G' k → G k ∨ W.heap.size ≤ k ∧ k < W'.heap.size) (hg : G' sb) : SrS w w1 z d eb l vm sm tm am h pre D M own ev G' sb so W' := ⟨hS.s.add hb hG, (hb.block _ (lt_of_block hS.src)).trans hS.src, hg⟩
set_option maxRecDepth 100000 in
set_option maxHeartbeats 8000000 in
theorem sbegins_calls {ep : Int} {out : Value} {b0 : Bool} {s0 i0 : Int} (hS : SrS w w1 z d eb l vm sm tm am h pre D M own ev G sb (SrcO z ep (.slice none 0 0) i0 out b0 s0) W) {m : Nat} (hm : M.last = m) :
    Calls Tryz.prog 71 #[.pointer (some ⟨sb, 0, none⟩)] W fun e w' => ∃ pi ci ob p c, e = .returned (.tuple #[]) ∧ OutIn w' ob p 4 c [0, 0, 0, 0] 0 ∧ 4 ≤ c ∧ W.heap.size ≤ ob ∧ (∀ k, (Value.slice p 4 c).ownBlock = some k → W.heap.size ≤ k) ∧
      SrS w w1 z d eb l vm sm tm am h pre D M own ev (fun k => G k ∨ k = ob) sb (SrcO z ep (.slice pi 4 ci) (m : Int) (.pointer (some ⟨ob, 0, none⟩)) false 0) w' ∧ Chg (fun k => k = sb) W w' := by
  have H := Lib.hid hS
  have c0 := cell_of hS.src (i := 0) (v := .pointer (some ⟨z, 0, none⟩)) rfl
  have hbz : Below w.heap.size w W := hS.s.led.bel
  clear hS
  go_enter Tryz.func71, Tryz.ntmps71
  go_upto_region 0 with (fail)
  try simp only [Act.put, uA, uB, uC]
  refine ord_start (fun W' : World => W'.cell? ⟨sb, 0, none⟩ = some (.pointer (some ⟨z, 0, none⟩))) (n := 26) (by kernel_rfl) rfl c0 (fun hHeld => ?_)
  have H1 := Lib.hid (And.intro (H.out.next (below_drew W)) (below_drew W))
  have Hsz := Lib.hid (lt_of_block H.out.src)
  clear c0 H
  generalize W.drew = W1 at *
  refine Pl [0, 1, 2, 3, 4, 5, 6, 7, 9, 10, 11, 12] ?_
  iterate 12 (refine Pd rfl (by intro w' hSw; have d0 := hSw; go_simp; try with_reducible rfl) ?_; simp only [Act.put, uA, uB, uC])
  refine Pn ?_
  have HI := Lib.hid (zimage0_calls H1.out.1.s.zon H1.out.1.s.eco)
  refine ord_one 8 rfl (by kernel_rfl) (by rfl) (fun K hK => ?_)
  go_wp2_with fail
  refine HI.out.mono ?_
  rintro e W2 ⟨v, rfl, hv, hvn, hb⟩
  obtain ⟨pi, ci, rfl⟩ := hv.slice
  have H2 := Lib.hid (And.intro (H1.out.1.next hb) (And.intro (((Chg.of_below (H1.out.2.trans (hb.mono H1.out.2.size))).mono fun _ _ e => e.elim : Chg (fun x => x = sb) W W2)) (And.intro hv fun k hk => Nat.le_trans H1.out.2.size (hvn k hk))))
  have hH2 := (hb.cell (World.block_lt_of_cell? _ _ hHeld)).trans hHeld
  clear hv hvn hb HI H1 hHeld
  go_wp2_with fail
  refine hK.out _ _ hH2 (fun hHeld => ?_)
  clear hK hH2
  try simp only [Act.put, uA, uB, uC]
  have HL := Lib.hid (zlast_calls H2.out.1.s.zoneF hm)
  refine ord_one 13 rfl (by kernel_rfl) (by rfl) (fun K hK => ?_)
  go_wp2_with fail
  refine HL.out.mono ?_
  rintro e W3 ⟨rfl, q, rfl⟩
  have hbq := below_drewN W2.heap.size W2 q
  have H3 := Lib.hid (And.intro (H2.out.1.next hbq) (And.intro (H2.out.2.1.trans (Chg.of_below hbq) fun _ _ e => e.elim) (And.intro (OwnR.keep H2.out.2.2.1 fun _ _ => rfl : OwnB (W2.drewN q) 5 (.slice pi 4 ci) [0, 0, 0, 0]) H2.out.2.2.2)))
  have hH3 : (W2.drewN q).cell? ⟨sb, 0, none⟩ = some (.pointer (some ⟨z, 0, none⟩)) := hHeld
  clear hbq HL H2 hHeld
  generalize W2.drewN q = W3 at *
  go_wp2_with fail
  refine hK.out _ _ hH3 (fun hHeld => ?_)
  clear hK hH3
  try simp only [Act.put, uA, uB, uC]
  refine Pl [14, 15] ?_
  iterate 2 (refine Pc rfl ?_; simp only [Act.put, uA, uB, uC])
  refine Pn ?_
  have e2 := cell_of H3.out.1.src (i := 2) (v := (.slice none 0 0)) rfl
  have f2 := frozen_of H3.out.1.src 2
  refine ord_one 16 rfl (by kernel_rfl) (by rfl) (fun K hK => ?_)
  go_wp2_with fail
  have hc2 : Chg (fun x => x = sb) W3 (W3.setCell ⟨sb, 2, none⟩ (.slice pi 4 ci)) := Chg.setCell W3 ⟨sb, 2, none⟩ (.slice pi 4 ci)
  have H4 := Lib.hid (And.intro (H3.out.1.turn hc2 (show (W3.setCell ⟨sb, 2, none⟩ (.slice pi 4 ci)).heap[sb]? = some (SrcO z ep (.slice pi 4 ci) i0 out b0 s0) from set_block H3.out.1.src 2 (.slice pi 4 ci))) (And.intro (H3.out.2.1.trans hc2 fun _ _ e => e) (And.intro (OwnR.keep H3.out.2.2.1 fun j hj => hc2.block j (OwnR.lt H3.out.2.2.1 hj) (fun e => by have h1 := H3.out.2.2.2 j hj; have h2 := Hsz.out; omega) : OwnB (W3.setCell ⟨sb, 2, none⟩ (.slice pi 4 ci)) 5 (.slice pi 4 ci) [0, 0, 0, 0]) H3.out.2.2.2)))
  have hH4 : (W3.setCell ⟨sb, 2, none⟩ (.slice pi 4 ci)).cell? ⟨sb, 0, none⟩ = some (.pointer (some ⟨z, 0, none⟩)) := cell_of H4.out.1.src (i := 0) rfl
  clear e2 f2 hc2 hHeld H3
  generalize W3.setCell ⟨sb, 2, none⟩ (.slice pi 4 ci) = W4 at *
  refine hK.out _ _ hH4 (fun hHeld => ?_)
  clear hK hH4
  try simp only [Act.put, uA, uB, uC]
  refine Pl [17, 18] ?_
  iterate 2 (refine Pc rfl ?_; simp only [Act.put, uA, uB, uC])
  refine Pn ?_
  have e3 := cell_of H4.out.1.src (i := 3) (v := (.int .i64 i0)) rfl
  have f3 := frozen_of H4.out.1.src 3
  refine ord_one 19 rfl (by kernel_rfl) (by rfl) (fun K hK => ?_)
  go_wp2_with fail
  have hc3 : Chg (fun x => x = sb) W4 (W4.setCell ⟨sb, 3, none⟩ (.int .i64 (m : Int))) := Chg.setCell W4 ⟨sb, 3, none⟩ (.int .i64 (m : Int))
  have H5 := Lib.hid (And.intro (H4.out.1.turn hc3 (show (W4.setCell ⟨sb, 3, none⟩ (.int .i64 (m : Int))).heap[sb]? = some (SrcO z ep (.slice pi 4 ci) (m : Int) out b0 s0) from set_block H4.out.1.src 3 (.int .i64 (m : Int)))) (And.intro (H4.out.2.1.trans hc3 fun _ _ e => e) (And.intro (OwnR.keep H4.out.2.2.1 fun j hj => hc3.block j (OwnR.lt H4.out.2.2.1 hj) (fun e => by have h1 := H4.out.2.2.2 j hj; have h2 := Hsz.out; omega) : OwnB (W4.setCell ⟨sb, 3, none⟩ (.int .i64 (m : Int))) 5 (.slice pi 4 ci) [0, 0, 0, 0]) H4.out.2.2.2)))
  have hH5 : (W4.setCell ⟨sb, 3, none⟩ (.int .i64 (m : Int))).cell? ⟨sb, 0, none⟩ = some (.pointer (some ⟨z, 0, none⟩)) := cell_of H5.out.1.src (i := 0) rfl
  clear e3 f3 hc3 hHeld H4
  generalize W4.setCell ⟨sb, 3, none⟩ (.int .i64 (m : Int)) = W5 at *
  refine hK.out _ _ hH5 (fun hHeld => ?_)
  clear hK hH5
  try simp only [Act.put, uA, uB, uC]
  refine Pl [20, 21] ?_
  iterate 2 (refine Pc rfl ?_; simp only [Act.put, uA, uB, uC])
  refine Pn ?_
  have e5 := cell_of H5.out.1.src (i := 5) (v := (.bool b0)) rfl
  have f5 := frozen_of H5.out.1.src 5
  refine ord_one 22 rfl (by kernel_rfl) (by rfl) (fun K hK => ?_)
  go_wp2_with fail
  have hc5 : Chg (fun x => x = sb) W5 (W5.setCell ⟨sb, 5, none⟩ (.bool false)) := Chg.setCell W5 ⟨sb, 5, none⟩ (.bool false)
  have H6 := Lib.hid (And.intro (H5.out.1.turn hc5 (show (W5.setCell ⟨sb, 5, none⟩ (.bool false)).heap[sb]? = some (SrcO z ep (.slice pi 4 ci) (m : Int) out false s0) from set_block H5.out.1.src 5 (.bool false))) (And.intro (H5.out.2.1.trans hc5 fun _ _ e => e) (And.intro (OwnR.keep H5.out.2.2.1 fun j hj => hc5.block j (OwnR.lt H5.out.2.2.1 hj) (fun e => by have h1 := H5.out.2.2.2 j hj; have h2 := Hsz.out; omega) : OwnB (W5.setCell ⟨sb, 5, none⟩ (.bool false)) 5 (.slice pi 4 ci) [0, 0, 0, 0]) H5.out.2.2.2)))
  have hH6 : (W5.setCell ⟨sb, 5, none⟩ (.bool false)).cell? ⟨sb, 0, none⟩ = some (.pointer (some ⟨z, 0, none⟩)) := cell_of H6.out.1.src (i := 0) rfl
  clear e5 f5 hc5 hHeld H5
  generalize W5.setCell ⟨sb, 5, none⟩ (.bool false) = W6 at *
  refine hK.out _ _ hH6 (fun hHeld => ?_)
  clear hK hH6
  try simp only [Act.put, uA, uB, uC]
  refine Pl [23, 24] ?_
  iterate 2 (refine Pc rfl ?_; simp only [Act.put, uA, uB, uC])
  refine Pn ?_
  have e6 := cell_of H6.out.1.src (i := 6) (v := (.int .i64 s0)) rfl
  have f6 := frozen_of H6.out.1.src 6
  refine ord_one 25 rfl (by kernel_rfl) (by rfl) (fun K hK => ?_)
  go_wp2_with fail
  have hc6 : Chg (fun x => x = sb) W6 (W6.setCell ⟨sb, 6, none⟩ (.int .i64 0)) := Chg.setCell W6 ⟨sb, 6, none⟩ (.int .i64 0)
  have H7 := Lib.hid (And.intro (H6.out.1.turn hc6 (show (W6.setCell ⟨sb, 6, none⟩ (.int .i64 0)).heap[sb]? = some (SrcO z ep (.slice pi 4 ci) (m : Int) out false 0) from set_block H6.out.1.src 6 (.int .i64 0))) (And.intro (H6.out.2.1.trans hc6 fun _ _ e => e) (And.intro (OwnR.keep H6.out.2.2.1 fun j hj => hc6.block j (OwnR.lt H6.out.2.2.1 hj) (fun e => by have h1 := H6.out.2.2.2 j hj; have h2 := Hsz.out; omega) : OwnB (W6.setCell ⟨sb, 6, none⟩ (.int .i64 0)) 5 (.slice pi 4 ci) [0, 0, 0, 0]) H6.out.2.2.2)))
  have hH7 : (W6.setCell ⟨sb, 6, none⟩ (.int .i64 0)).cell? ⟨sb, 0, none⟩ = some (.pointer (some ⟨z, 0, none⟩)) := cell_of H7.out.1.src (i := 0) rfl
  clear e6 f6 hc6 hHeld H6
  generalize W6.setCell ⟨sb, 6, none⟩ (.int .i64 0) = W7 at *
  refine hK.out _ _ hH7 (fun hHeld => ?_)
  clear hK hH7
  try simp only [Act.put, uA, uB, uC]
  refine wpAnyH_done (by kernel_rfl) ?_ _
  clear hHeld
  have HP := Lib.hid (pnew_calls (l := [0, 0, 0, 0]) (OwnB.has H7.out.2.2.1) (by decide) 4 rfl)
  have e2 := cell_of H7.out.1.src (i := 2) (v := .slice pi 4 ci) rfl
  go_wp2_with fail
  refine HP.out.mono ?_
  rintro e W8 ⟨ob, p, c, rfl, hO, hcap, hob, hpn, hb⟩
  have H8 := Lib.hid (show SrS w w1 z d eb l vm sm tm am h pre D M own ev (fun k => G k ∨ k = ob) sb (SrcO z ep (.slice pi 4 ci) (m : Int) out false 0) W8 from H7.out.1.add hb (fun k hk => hk.imp id fun e => ⟨by omega, by have := lt_of_block hO.cells; omega⟩) (.inl H7.out.1.g))
  have e4 := cell_of H8.out.src (i := 4) (v := out) rfl
  have f4 := frozen_of H8.out.src 4
  have hc8 : Chg (fun x => x = sb) W8 (W8.setCell ⟨sb, 4, none⟩ (.pointer (some ⟨ob, 0, none⟩))) := Chg.setCell W8 ⟨sb, 4, none⟩ (.pointer (some ⟨ob, 0, none⟩))
  have h7s := H7.out.2.1.size
  have hsl := Hsz.out
  have H9 := Lib.hid (show OutIn (W8.setCell ⟨sb, 4, none⟩ (.pointer (some ⟨ob, 0, none⟩))) ob p 4 c [0, 0, 0, 0] 0 ∧ 4 ≤ c ∧ W.heap.size ≤ ob ∧ (∀ k, (Value.slice p 4 c).ownBlock = some k → W.heap.size ≤ k) ∧
      SrS w w1 z d eb l vm sm tm am h pre D M own ev (fun k => G k ∨ k = ob) sb (SrcO z ep (.slice pi 4 ci) (m : Int) (.pointer (some ⟨ob, 0, none⟩)) false 0) (W8.setCell ⟨sb, 4, none⟩ (.pointer (some ⟨ob, 0, none⟩))) ∧ Chg (fun k => k = sb) W (W8.setCell ⟨sb, 4, none⟩ (.pointer (some ⟨ob, 0, none⟩))) from
    ⟨hO.keep (fun k hk => hc8.block k (by rcases hk with rfl | hk; exact lt_of_block hO.cells; exact OwnR.lt hO.row hk) (fun e => by
      rcases hk with h1 | h1
      · omega
      · have := hpn k h1
        omega)), hcap, by omega, fun k hk => by have := hpn k hk; omega, H8.out.turn hc8 (show (W8.setCell ⟨sb, 4, none⟩ (.pointer (some ⟨ob, 0, none⟩))).heap[sb]? = some (SrcO z ep (.slice pi 4 ci) (m : Int) (.pointer (some ⟨ob, 0, none⟩)) false 0) from set_block H8.out.src 4 _), (H7.out.2.1.trans (Chg.of_below hb) fun _ _ e => e.elim).trans hc8 fun _ _ e => e⟩)
  clear hO hcap hob hpn hb hc8 h7s hsl HP e2 H7 H8
  go_wp2_with fail
  go_end0
  exact ⟨pi, ci, ob, p, c, rfl, H9.out⟩
end
end Go.Proofs.YtogdfkilhpkloaaGreatDoor

namespace Go.Proofs.YtogdfkilhpkloaaGreatDoor
open Go.RowKit Go.Sat Go.Maps

/-- A file of the document's disk: its name, the value of its bytes, what it is. -/
structure RFile where
  n : Bs
  b : Value
  f : FileM

def RFile.cells (x : RFile) : List Value := [encStr x.n, x.b, .int .i64 (x.f.lasts : Int)]
def RFile.key (x : RFile) : Bs × FileM := (x.n, x.f)

def leftOf : Option Nat → Int
  | none => -1
  | some k => k

theorem cells_at (L : List RFile) (i : Nat) (x : RFile) (h : L[i]? = some x) (j : Nat) (hj : j < 3) : (L.flatMap RFile.cells)[i * 3 + j]? = x.cells[j]? := by
  induction L generalizing i with
  | nil => simp at h
  | cons y r ih =>
    rw [List.flatMap_cons]
    cases i with
    | zero =>
      simp at h
      subst h
      rw [List.getElem?_append_left (by simp [RFile.cells]; omega)]
      simp
    | succ i =>
      rw [List.getElem?_append_right (by simp [RFile.cells]; omega)]
      have e : (i + 1) * 3 + j - y.cells.length = i * 3 + j := by simp [RFile.cells]; omega
      rw [e]
      exact ih i (by simpa using h)

structure RefIn (w : World) (r : Nat) (v : Value) (L : List RFile) (own : Nat → Prop) (D : DiskM) : Prop where
  cells : w.heap[r]? = some (.cells #[.int .i64 (D.room : Int), v, .int .i64 (leftOf D.fuse)] 307 (0, 0))
  row : OwnR w 423 3 v L.length (L.flatMap RFile.cells)
  files : D.files = L.map RFile.key
  data : ∀ x ∈ L, OwnB w 5 x.b x.f.data
  or : own r
  ov : ∀ k, v.ownBlock = some k → own k ∧ k ≠ r
  ob : ∀ x ∈ L, ∀ k, x.b.ownBlock = some k → own k ∧ k ≠ r ∧ v.ownBlock ≠ some k
  olt : ∀ k, own k → k < w.heap.size
  ok : D.OK

def RefAt (w : World) (r : Nat) (D : DiskM) (own : Nat → Prop) : Prop := ∃ v L, RefIn w r v L own D

theorem RefIn.keep {w w' : World} {r : Nat} {v : Value} {L : List RFile} {own : Nat → Prop} {D : DiskM} (h : RefIn w r v L own D) (hs : w.heap.size ≤ w'.heap.size) (hb : ∀ k, own k → w'.heap[k]? = w.heap[k]?) : RefIn w' r v L own D where
  cells := (hb r h.or).trans h.cells
  row := h.row.keep fun k hk => hb k (h.ov k hk).1
  files := h.files
  data := fun x hx => OwnR.keep (h.data x hx) fun k hk => hb k (h.ob x hx k hk).1
  or := h.or
  ov := h.ov
  ob := h.ob
  olt := fun k hk => Nat.lt_of_lt_of_le (h.olt k hk) hs
  ok := h.ok

theorem RefAt.keep {w w' : World} {r : Nat} {own : Nat → Prop} {D : DiskM} (h : RefAt w r D own) (hs : w.heap.size ≤ w'.heap.size) (hb : ∀ k, own k → w'.heap[k]? = w.heap[k]?) : RefAt w' r D own := by
  obtain ⟨v, L, h⟩ := h
  exact ⟨v, L, h.keep hs hb⟩

section
variable {w : World} {r : Nat} {v : Value} {L : List RFile} {own : Nat → Prop} {D : DiskM}

theorem RefIn.c0 (h : RefIn w r v L own D) : w.cell? ⟨r, 0, none⟩ = some (.int .i64 (D.room : Int)) := cell_of h.cells rfl
theorem RefIn.c1 (h : RefIn w r v L own D) : w.cell? ⟨r, 1, none⟩ = some v := cell_of h.cells rfl
theorem RefIn.c2 (h : RefIn w r v L own D) : w.cell? ⟨r, 2, none⟩ = some (.int .i64 (leftOf D.fuse)) := cell_of h.cells rfl
theorem RefIn.len (h : RefIn w r v L own D) : L.length = D.files.length := by rw [h.files, List.length_map]

/-- The cells of a file. -/
theorem RefIn.at (h : RefIn w r v L own D) : L = [] ∨ ∃ g c, v = .slice (some ⟨g, 0, none⟩) L.length c ∧ L.length ≤ c ∧ ∀ i x, L[i]? = some x → w.cell? ⟨g, i * 3, none⟩ = some (encStr x.n) ∧ w.cell? ⟨g, i * 3 + 1, none⟩ = some x.b ∧ w.cell? ⟨g, i * 3 + 2, none⟩ = some (.int .i64 (x.f.lasts : Int)) := by
  rcases h.row.2 with ⟨rfl, hn⟩ | ⟨g, cap, cur, e, hg, hnc, _⟩
  · exact .inl (List.eq_nil_of_length_eq_zero hn)
  · refine .inr ⟨g, cap, e, hnc, fun i x hx => ?_⟩
    have hc := h.row.cells (g := g) (by rw [e]; rfl)
    refine ⟨?_, ?_, ?_⟩
    · have := hc (i * 3 + 0) (encStr x.n) ((cells_at L i x hx 0 (by omega)).trans rfl)
      rwa [add_zero] at this
    · have := hc (i * 3 + 1) x.b ((cells_at L i x hx 1 (by omega)).trans rfl)
      rwa [add_zero] at this
    · have := hc (i * 3 + 2) _ ((cells_at L i x hx 2 (by omega)).trans rfl)
      rwa [add_zero] at this

theorem RefIn.slice (h : RefIn w r v L own D) : ∃ p c, v = .slice p L.length c := OwnR.shape h.row
end

/-- Where a name stands, or would stand. -/
def spotN (n : Bs) : List Bs → Nat
  | [] => 0
  | x :: r => if bytesBefore x n then spotN n r + 1 else 0
def isAt (n : Bs) (l : List Bs) : Bool := l[spotN n l]? == some n

theorem less_before (x : Bs) (s : ByteArray) : Op.bytesLess x s.toList = bytesBefore x (nm s) := by
  have e : s.toList = nm s := ByteArray.toList_eq s
  rw [e, Bool.eq_iff_iff, bb_lt, bytesLess_eq, decide_eq_true_eq]

theorem drop_cons {α : Type} {l : List α} {k : Nat} {x : α} (h : l[k]? = some x) : l.drop k = x :: l.drop (k + 1) := by
  obtain ⟨hk, rfl⟩ := List.getElem?_eq_some_iff.1 h
  exact List.drop_eq_getElem_cons hk

theorem spotN_yes {n x : Bs} {r : List Bs} (h : bytesBefore x n = true) : spotN n (x :: r) = spotN n r + 1 := by
  show (if bytesBefore x n then _ else _) = _
  rw [if_pos h]
theorem spotN_no {n x : Bs} {r : List Bs} (h : bytesBefore x n = false) : spotN n (x :: r) = 0 := by
  show (if bytesBefore x n then _ else _) = _
  rw [if_neg (by simp [h])]
theorem spotN_le (n : Bs) : ∀ l, spotN n l ≤ l.length
  | [] => Nat.le_refl _
  | x :: r => by
    have := spotN_le n r
    cases h : bytesBefore x n with
    | true => rw [spotN_yes h]; simp; omega
    | false => rw [spotN_no h]; exact Nat.zero_le _

set_option maxRecDepth 100000 in
theorem spot_calls {w : World} {r : Nat} {v : Value} {L : List RFile} {own : Nat → Prop} {D : DiskM} (h : RefIn w r v L own D) (s : ByteArray) :
    Calls Tryz.prog 328 #[.pointer (some ⟨r, 0, none⟩), .string s] w fun e w' => e = .returned (.tuple #[.int .i64 (spotN (nm s) (L.map RFile.n) : Int), .bool (isAt (nm s) (L.map RFile.n))]) ∧ ∃ q, w' = w.drewN q := by
  obtain ⟨p, c, rfl⟩ := h.slice
  have c1 := h.c1
  have Hat := Lib.hid h.at
  have hcount : L.length ≤ 4096 := by rw [h.len]; exact h.ok.count
  clear h
  have hNn : (L.map RFile.n).length = L.length := List.length_map ..
  generalize hN : L.length = N at *
  have HN := Lib.hid hN
  have HNn := Lib.hid hNn
  clear hN hNn
  go_enter Tryz.func328, Tryz.ntmps328
  go_wp2_with fail
  go_loop [6] (fun i => ∃ k : Nat, k ≤ N ∧ i = .int .i64 k ∧ spotN (nm s) (L.map RFile.n) = k + spotN (nm s) ((L.map RFile.n).drop k)) (fun i => N - (intOf i).toNat)
  case atStart => exact ⟨0, Nat.zero_le _, rfl, by simp⟩
  case round =>
    obtain ⟨k, hk, rfl, hsp⟩ := hrel
    by_cases hlt : k < N
    · have hkl : k < L.length := by rw [HN.out]; exact hlt
      obtain ⟨y, hy⟩ : ∃ y, L[k]? = some y := ⟨_, List.getElem?_eq_getElem hkl⟩
      have hmk : (L.map RFile.n)[k]? = some y.n := by rw [List.getElem?_map, hy]; rfl
      rw [drop_cons hmk] at hsp
      rcases Hat.out with h0 | ⟨g, c1, e1, -, hc⟩
      · rw [h0] at hkl
        simp at hkl
      cases e1
      obtain ⟨hn0, -, -⟩ := hc k y hy
      rw [enc_str] at hn0
      have Hsp := Lib.hid hsp
      have Hmk := Lib.hid hmk
      clear hc hkl hy hsp hmk
      generalize y.n = x at *
      cases hb : bytesBefore x (nm s) with
      | true =>
        have hb1 : Op.bytesLess x s.toList = true := by rw [less_before]; exact hb
        go_wp2_with fail
        go_round
        case rel => exact ⟨k + 1, by omega, by go_num, by rw [Hsp.out, spotN_yes hb]; omega⟩
        case measure => simp [intOf]; omega
      | false =>
        have hb1 : Op.bytesLess x s.toList = false := by rw [less_before]; exact hb
        have Hfin : spotN (nm s) (L.map RFile.n) = k := by rw [Hsp.out, spotN_no hb]; rfl
        have Hfa : isAt (nm s) (L.map RFile.n) = (x == nm s) := by unfold isAt; rw [Hfin, Hmk.out]; rfl
        have Hres := Lib.hid (show Value.tuple #[.int .i64 (k : Int), .bool (x == s.toList)] = .tuple #[.int .i64 (spotN (nm s) (L.map RFile.n) : Int), .bool (isAt (nm s) (L.map RFile.n))] by rw [Hfin, Hfa, ByteArray.toList_eq]; rfl)
        clear Hsp Hfin Hfa hb
        go_wp2_with fail
        go_quiet (fail)
        go_wp2
        go_ret2
        exact ⟨congrArg Ending.returned Hres.out, _, rfl⟩
    · have hkN : k = N := by omega
      subst hkN
      have hd : (L.map RFile.n).drop k = [] := List.drop_of_length_le (by rw [HNn.out]; exact Nat.le_refl _)
      rw [hd] at hsp
      have hsp' : spotN (nm s) (L.map RFile.n) = k := hsp
      have hfa : isAt (nm s) (L.map RFile.n) = false := by unfold isAt; rw [hsp', List.getElem?_eq_none (by rw [HNn.out]; exact Nat.le_refl _)]; rfl
      have Hres := Lib.hid (show Value.tuple #[.int .i64 (k : Int), .bool false] = .tuple #[.int .i64 (spotN (nm s) (L.map RFile.n) : Int), .bool (isAt (nm s) (L.map RFile.n))] by rw [hsp', hfa])
      clear hsp hsp' hfa hd
      go_wp2_with fail
      go_quiet (fail)
      go_wp2
      go_ret2
      exact ⟨congrArg Ending.returned Hres.out, _, rfl⟩
end Go.Proofs.YtogdfkilhpkloaaGreatDoor
