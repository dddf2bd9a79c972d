/- What a disk holds that a ledger of the prefix "a" has written, and what it opens as (plain laws). What Append, Write and Crash leave on the disk of a ledger "a" (plain laws). What Write leaves on the disk of a ledger "a", and behind a crash (plain laws). Append and Write of a text that stands in the code; a row that is made a string; the contract of satrapylaw14.known: it is true. What a law does with a ledger beside Append and Write: the fuse, a reading, rows that were handed in, rows of its own. A ledger's files on a disk of which other files may stand (plain laws). -/
import Derived.Test.YteohbjkjfnflgaaNC
import Derived.Test.YteohbjkjfnflgaaNF
import Derived.Test.YteohbjkjfnflgaaNL
namespace Go.Proofs.Yteohbjkjfnflgaa
open Go.RowKit Go.Sat Go.Maps

def pA : Bs := [97]
def logA : Bs := [97, 45, 108, 111, 103]
def imgA : Bs := [97, 45, 105, 109, 103]
def shA : Bs := [97, 45, 105, 109, 103, 126]
theorem logA_eq : logN pA = logA := rfl
theorem imgA_eq : imgN pA = imgA := rfl
theorem shA_eq : shadowN (imgN pA) = shA := rfl

/-- A file all of which lasts. -/
def whole (b : Bs) : FileM := ⟨b, b.length⟩

/-- The records of entries behind a number. -/
def recF : Nat → List Bs → List Bs
  | _, [] => []
  | n, e :: r => imgB (n + 1) e :: recF (n + 1) r

theorem recF_len : ∀ (n : Nat) (es : List Bs), (recF n es).length = es.length
  | _, [] => rfl
  | n, e :: r => by
    show (recF (n + 1) r).length + 1 = _
    rw [recF_len (n + 1) r]
    rfl
theorem recF_nil {n : Nat} {es : List Bs} : recF n es = [] ↔ es = [] := by
  cases es with
  | nil => exact ⟨fun _ => rfl, fun _ => rfl⟩
  | cons e r => exact ⟨(fun h => by cases h), (fun h => by cases h)⟩
theorem recF_app : ∀ (n : Nat) (es fs : List Bs), recF n (es ++ fs) = recF n es ++ recF (n + es.length) fs
  | _, [], _ => rfl
  | n, e :: r, fs => by
    show imgB (n + 1) e :: recF (n + 1) (r ++ fs) = _
    rw [recF_app (n + 1) r fs]
    show _ = imgB (n + 1) e :: (recF (n + 1) r ++ recF (n + (r.length + 1)) fs)
    rw [show n + 1 + r.length = n + (r.length + 1) by omega]
theorem recF_one (n : Nat) (p : Bs) : recF n [p] = [imgB (n + 1) p] := rfl
theorem recF_take : ∀ (n k : Nat) (es : List Bs), (recF n es).take k = recF n (es.take k)
  | _, _, [] => by simp [recF]
  | _, 0, _ :: _ => rfl
  | n, k + 1, e :: r => by
    show imgB (n + 1) e :: (recF (n + 1) r).take k = imgB (n + 1) e :: recF (n + 1) (r.take k)
    rw [recF_take (n + 1) k r]

theorem imgB_len (n : Nat) (p : Bs) (hn : n ≤ 4611686018427387904) (hp : p.length ≤ 4611686018427387904) : (imgB n p).length ≤ p.length + 18 := by
  unfold imgB rowB
  have h1 := numB_nine hn
  have h2 := numB_nine hp
  rw [List.length_append, List.length_append]
  omega

theorem rd_img (n : Nat) (p : Bs) (hn : n ≤ 4611686018427387904) : Rd.num ⟨imgB n p, false⟩ = (n, ⟨rowB p, false⟩) := Rd.num_of hn _ _
theorem rd_row (p : Bs) (hp : p.length ≤ 4611686018427387904) : Rd.bytes ⟨rowB p, false⟩ = (p, ⟨[], false⟩) := by
  have := Rd.bytes_of hp [] false
  rwa [List.append_nil] at this

/-- What is asked of entries. -/
def Fits (n : Nat) (es : List Bs) : Prop := n + es.length ≤ 1099511627776 ∧ ∀ e ∈ es, e.length ≤ 65536

theorem take1_next {base : Nat} {la : Int} {es : List Bs} {p : Bs} (hla : la = -1 ∨ la = ((base + es.length : Nat) : Int)) (hn : base + es.length + 1 ≤ 1099511627776) (hp : p.length ≤ 65536) :
    take1 base (la, es) (imgB (base + es.length + 1) p) = some (((base + es.length + 1 : Nat) : Int), es ++ [p]) := by
  unfold take1
  rw [rd_img _ _ (by omega)]
  dsimp only
  rw [rd_row _ (by omega)]
  rw [if_neg (by
    rintro (h | h | h | ⟨h1, h2⟩)
    · cases h
    · omega
    · omega
    · rcases hla with e | e <;> omega), if_neg (by omega), if_neg (by simp)]

theorem take1_skip {base : Nat} {la : Int} {es : List Bs} {p : Bs} {n : Nat} (hla : la = -1 ∨ la = (n : Int)) (hn : n + 1 ≤ base) (hb : base ≤ 1099511627776) (hp : p.length ≤ 65536) :
    take1 base (la, es) (imgB (n + 1) p) = some (((n + 1 : Nat) : Int), es) := by
  unfold take1
  rw [rd_img _ _ (by omega)]
  dsimp only
  rw [rd_row _ (by omega)]
  rw [if_neg (by
    rintro (h | h | h | ⟨h1, h2⟩)
    · cases h
    · omega
    · omega
    · rcases hla with e | e <;> omega), if_pos hn]

theorem takeAll_new (base : Nat) : ∀ (fs es : List Bs) (la : Int), (la = -1 ∨ la = ((base + es.length : Nat) : Int)) → Fits (base + es.length) fs →
    ∃ lb, takeAll base (la, es) (recF (base + es.length) fs) = some (lb, es ++ fs)
  | [], es, la, _, _ => ⟨la, by rw [List.append_nil]; rfl⟩
  | f :: fs, es, la, hla, hf => by
    have h1 := take1_next (p := f) hla (by have := hf.1; simp at this; omega) (hf.2 f (by simp))
    obtain ⟨lb, h2⟩ := takeAll_new base fs (es ++ [f]) ((base + es.length + 1 : Nat) : Int) (.inr (by rw [List.length_append]; rfl)) ⟨by have := hf.1; simp at this ⊢; omega, fun e he => hf.2 e (by simp [he])⟩
    refine ⟨lb, ?_⟩
    show (match take1 base (la, es) (imgB (base + es.length + 1) f) with | none => none | some t => takeAll base t (recF (base + es.length + 1) fs)) = _
    rw [h1]
    rw [List.length_append, List.append_assoc] at h2
    exact h2

theorem takeAll_old (base : Nat) (hb : base ≤ 1099511627776) : ∀ (fs : List Bs) (n : Nat) (la : Int), (la = -1 ∨ la = (n : Int)) → n + fs.length ≤ base → (∀ e ∈ fs, e.length ≤ 65536) →
    ∃ lb, takeAll base (la, []) (recF n fs) = some (lb, [])
  | [], n, la, _, _, _ => ⟨la, rfl⟩
  | f :: fs, n, la, hla, hn, hf => by
    have h1 := take1_skip (es := []) (p := f) hla (by simp at hn; omega) hb (hf f (by simp))
    obtain ⟨lb, h2⟩ := takeAll_old base hb fs (n + 1) ((n + 1 : Nat) : Int) (.inr rfl) (by simp at hn; omega) fun e he => hf e (by simp [he])
    refine ⟨lb, ?_⟩
    show (match take1 base (la, []) (imgB (n + 1) f) with | none => none | some t => takeAll base t (recF (n + 1) fs)) = _
    rw [h1]
    exact h2

/-! ### The disk -/
def imgs : Option (Nat × Bs) → List (Bs × FileM)
  | none => []
  | some (n, b) => [(imgA, whole (frameN (imgB n b)))]
def logs (b : Bs) : List (Bs × FileM) := if b = [] then [] else [(logA, whole b)]
def baseOf : Option (Nat × Bs) → Nat
  | none => 0
  | some (n, _) => n
def dataI : Option (Nat × Bs) → Bs
  | none => []
  | some (_, b) => b

def fD (im : Option (Nat × Bs)) (b : Bs) (f : Option Nat) : DiskM := ⟨65536, imgs im ++ logs b, f⟩
/-- The disk of a ledger: its image, its entries. -/
def sD (im : Option (Nat × Bs)) (es : List Bs) (f : Option Nat) : DiskM := fD im (recsB (recF (baseOf im) es)) f

theorem recsB_nil {ls : List Bs} : recsB ls = [] ↔ ls = [] := by
  cases ls with
  | nil => exact ⟨fun _ => rfl, fun _ => rfl⟩
  | cons l r =>
    refine ⟨fun h => ?_, fun h => by cases h⟩
    rw [recsB_cons] at h
    have := congrArg List.length h
    rw [List.length_append, frame_len] at this
    simp at this

theorem get_log (im : Option (Nat × Bs)) (b : Bs) : Sat.get logA (imgs im ++ logs b) = if b = [] then none else some (whole b) := by
  unfold logs
  by_cases h : b = []
  · rw [if_pos h, if_pos h]
    cases im with
    | none => rfl
    | some x => rfl
  · rw [if_neg h, if_neg h]
    cases im with
    | none => rfl
    | some x => rfl
theorem get_img (im : Option (Nat × Bs)) (b : Bs) : Sat.get imgA (imgs im ++ logs b) = im.map fun x => whole (frameN (imgB x.1 x.2)) := by
  unfold logs
  cases im with
  | none => split <;> rfl
  | some x => split <;> rfl
theorem get_sh (im : Option (Nat × Bs)) (b : Bs) : Sat.get shA (imgs im ++ logs b) = none := by
  unfold logs
  cases im with
  | none => split <;> rfl
  | some x => split <;> rfl
theorem srt_files (im : Option (Nat × Bs)) (b : Bs) : Srt (imgs im ++ logs b) := by
  unfold logs
  cases im with
  | none => split <;> (show List.Pairwise _ _; simp [imgs])
  | some x =>
    split
    · show List.Pairwise _ _
      simp [imgs]
    · show List.Pairwise _ _
      simp [imgs]
      decide
theorem put_log (im : Option (Nat × Bs)) (b c : Bs) (hc : c ≠ []) : put logA (whole c) (imgs im ++ logs b) = imgs im ++ logs c := by
  unfold logs
  rw [if_neg hc]
  cases im with
  | none => split <;> rfl
  | some x => split <;> rfl
theorem put_raw (im : Option (Nat × Bs)) (b : Bs) (f : FileM) : put logA f (imgs im ++ logs b) = imgs im ++ [(logA, f)] := by
  unfold logs
  cases im with
  | none => split <;> rfl
  | some x => split <;> rfl
theorem put_raw2 (im : Option (Nat × Bs)) (f g : FileM) : put logA f (imgs im ++ [(logA, g)]) = imgs im ++ [(logA, f)] := by
  cases im with
  | none => rfl
  | some x => rfl
theorem del_log (im : Option (Nat × Bs)) (b : Bs) : del logA (imgs im ++ logs b) = imgs im ++ logs [] := by
  unfold logs
  cases im with
  | none => split <;> rfl
  | some x => split <;> rfl
theorem put_img (im : Option (Nat × Bs)) (b : Bs) (n : Nat) (p : Bs) : put imgA (whole (frameN (imgB n p))) (imgs im ++ logs b) = imgs (some (n, p)) ++ logs b := by
  unfold logs
  cases im with
  | none => split <;> rfl
  | some x => split <;> rfl

def szI : Option (Nat × Bs) → Nat
  | none => 0
  | some (n, b) => (frameN (imgB n b)).length
theorem used_f (im : Option (Nat × Bs)) (b : Bs) (f : Option Nat) : (fD im b f).used = szI im + b.length := by
  unfold fD DiskM.used logs
  cases im with
  | none => split <;> simp_all [imgs, sumBy, szI, DiskM.size, whole]
  | some x => split <;> simp_all [imgs, sumBy, szI, DiskM.size, whole]
theorem count_f (im : Option (Nat × Bs)) (b : Bs) : (imgs im ++ logs b).length ≤ 2 := by
  unfold logs
  cases im with
  | none => split <;> simp [imgs]
  | some x => split <;> simp [imgs]
theorem cur_log (im : Option (Nat × Bs)) (b : Bs) (f : Option Nat) : (fD im b f).cur logA = whole b := by
  unfold DiskM.cur
  show (Sat.get logA (imgs im ++ logs b)).getD _ = _
  rw [get_log]
  by_cases h : b = []
  · rw [if_pos h, h]
    rfl
  · rw [if_neg h]
    rfl

/-! ### What it opens as -/
theorem image_none : imageOf none = (0, 0, []) := by
  unfold imageOf
  rw [if_pos loadE_none]
theorem image_some (n : Nat) (p : Bs) (hn : n ≤ 1099511627776) (hp : p.length ≤ 524288) : imageOf (some (whole (frameN (imgB n p)))) = (0, n, p) := by
  have hl := imgB_len n p (by omega) (by omega)
  have h := load_frame (imgB n p) (by omega) (frameN (imgB n p)).length
  unfold imageOf whole
  rw [h.1, h.2, if_neg (by decide), if_neg (by decide), rd_img _ _ (by omega)]
  dsimp only
  rw [rd_row _ (by omega), if_neg (by
    rintro (h | h)
    · cases h
    · omega)]

def OkI : Option (Nat × Bs) → Prop
  | none => True
  | some (n, p) => n ≤ 1099511627776 ∧ p.length ≤ 524288

theorem image_f {im : Option (Nat × Bs)} (h : OkI im) (b : Bs) : imageOf (Sat.get imgA (imgs im ++ logs b)) = (0, baseOf im, dataI im) := by
  rw [get_img]
  cases im with
  | none => exact image_none
  | some x => exact image_some x.1 x.2 h.1 h.2

theorem rid_none {D : DiskM} {n : Bs} (h : Sat.get n D.files = none) : D.rid [n] = (D, 0) := by
  have : DiskM.rid1 D n = (D, 0) := by unfold DiskM.rid1; rw [h]; rfl
  show (if (DiskM.rid1 D n).2 = 0 then _ else _) = _
  rw [this]
  rfl
theorem rid_some {D : DiskM} {n : Bs} {f : FileM} (hf : D.fuse ≠ some 0) (hn : okN n = true) (h : Sat.get n D.files = some f) : D.rid [n] = (⟨D.room, del n D.files, offF D.fuse 1⟩, 0) := by
  have : DiskM.rid1 D n = (⟨D.room, del n D.files, offF D.fuse 1⟩, 0) := by unfold DiskM.rid1; rw [h]; exact remove_ok hf hn h
  show (if (DiskM.rid1 D n).2 = 0 then _ else _) = _
  rw [this]
  rfl
theorem rid_dead {D : DiskM} {n : Bs} {f : FileM} (hf : D.fuse = some 0) (h : Sat.get n D.files = some f) : D.rid [n] = (D, 9) := by
  have : DiskM.rid1 D n = (D, 9) := by unfold DiskM.rid1; rw [h]; exact remove_dead hf
  show (if (DiskM.rid1 D n).2 = 0 then _ else _) = _
  rw [this]
  rfl

theorem open_parts {D D1 : DiskM} {i : Nat × Nat × Bs} {g : DiskM × Nat × List Bs} (h1 : D.rid [shA] = (D1, 0)) (hi : imageOf (Sat.get imgA D1.files) = i) (hi0 : i.1 = 0) (hg : logOf D1 pA i.2.1 = g) : ledOpen D pA = (g.1, g.2.1, ⟨i.2.1, i.2.2, g.2.2, false⟩) := by
  unfold ledOpen
  rw [if_neg (by decide), shA_eq, imgA_eq, h1]
  rw [if_neg (by simp)]
  dsimp only
  rw [hi, if_neg (by simpa using hi0), hg]

theorem frm (im : Option (Nat × Bs)) (b : Bs) : (fD im b none).files = imgs im ++ logs b := rfl

theorem torn_gen {im : Option (Nat × Bs)} {b : Bs} {k : Nat} (hb : b ≠ []) (hk : k ≤ b.length) : tornOff (fD im b none) logA k b.length = (⟨65536, imgs im ++ [(logA, whole (b.take k))], none⟩, 0) := by
  have hg : Sat.get logA (fD im b none).files = some (whole b) := by rw [frm, get_log, if_neg hb]
  unfold tornOff
  by_cases hc : k < b.length
  · rw [if_pos hc]
    have h1 := truncate_ok (D := fD im b none) (n := logA) (k := k) (by intro e; cases e) (by decide) hg hk
    have e1 : (⟨(whole b).data.take k, min (whole b).lasts k⟩ : FileM) = whole (b.take k) := by
      show (⟨b.take k, min b.length k⟩ : FileM) = ⟨b.take k, (b.take k).length⟩
      rw [List.length_take, Nat.min_comm]
    rw [e1, frm, put_raw] at h1
    rw [h1, if_neg (by simp)]
    have h2 := sync_ok (D := ⟨(fD im b none).room, imgs im ++ [(logA, whole (b.take k))], offF (fD im b none).fuse 1⟩) (n := logA) (f := whole (b.take k)) (by intro e; cases e) (by decide) (by cases im <;> rfl)
    rw [h2]
    show ((⟨_, put logA (whole (b.take k)) _, _⟩ : DiskM), 0) = _
    rw [put_raw2]
    rfl
  · rw [if_neg hc]
    have : b.take k = b := List.take_of_length_le (by omega)
    rw [this]
    unfold fD logs
    rw [if_neg hb]

theorem del_raw (im : Option (Nat × Bs)) (f : FileM) : del logA (imgs im ++ [(logA, f)]) = imgs im := by
  cases im <;> rfl

theorem log_gen {im : Option (Nat × Bs)} {b : Bs} {base k : Nat} {rs es : List Bs} {la : Int} (hb : b ≠ []) (hs : scan b = (rs, k)) (hk : k ≤ b.length) (ht : takeAll base (-1, []) rs = some (la, es)) :
    logOf (fD im b none) pA base = (⟨65536, imgs im ++ (if es = [] then [] else [(logA, whole (b.take k))]), none⟩, 0, es) := by
  have hT := torn_gen (im := im) hb hk
  unfold logOf
  rw [logA_eq, frm, get_log, if_neg hb]
  show (match takeAll base (-1, []) (scan b).1 with | none => _ | some s => _) = _
  rw [hs, ht]
  dsimp only
  rw [show (whole b).data = b from rfl, hs, hT, if_neg (by simp)]
  by_cases he : es = []
  · rw [if_pos he, if_pos he]
    have h2 := remove_ok (D := ⟨65536, imgs im ++ [(logA, whole (b.take k))], none⟩) (n := logA) (f := whole (b.take k)) (by intro e; cases e) (by decide) (by cases im <;> rfl)
    rw [h2, List.append_nil]
    show ((⟨_, del logA (imgs im ++ [(logA, whole (b.take k))]), _⟩ : DiskM), _) = _
    rw [del_raw]
    rfl
  · rw [if_neg he, if_neg he]

theorem logs_nil : logs [] = [] := if_pos rfl
theorem Fits.rows {n : Nat} {es : List Bs} (h : Fits n es) : ∀ l ∈ recF n es, l.length ≤ 1048576 := by
  induction es generalizing n with
  | nil => intro l hl; cases hl
  | cons e r ih =>
    intro l hl
    have h1 := h.1
    simp only [List.length_cons] at h1
    cases hl with
    | head =>
      have h2 := h.2 e (by simp)
      have := imgB_len (n + 1) e (by omega) (by omega)
      omega
    | tail _ hl => exact ih ⟨by omega, fun e he => h.2 e (by simp [he])⟩ l hl

/-- Entries, and what is torn behind them. -/
theorem open_new {im : Option (Nat × Bs)} (hi : OkI im) {es : List Bs} (hf : Fits (baseOf im) es) {t : Bs} (ht : t = [] ∨ decE t ≠ 0) :
    ledOpen (fD im (recsB (recF (baseOf im) es) ++ t) none) pA = (sD im es none, 0, ⟨baseOf im, dataI im, es, false⟩) := by
  refine open_parts (i := (0, baseOf im, dataI im)) (g := (sD im es none, 0, es)) (rid_none (get_sh _ _)) (image_f hi _) rfl ?_
  by_cases hb : recsB (recF (baseOf im) es) ++ t = []
  · have h1 := List.append_eq_nil_iff.mp hb
    have h2 : es = [] := recF_nil.mp (recsB_nil.mp h1.1)
    subst h2
    rw [hb]
    unfold logOf
    rw [logA_eq, frm, get_log, if_pos rfl]
    rfl
  · obtain ⟨lb, hl⟩ := takeAll_new (baseOf im) es [] (-1) (.inl rfl) (by simpa using hf)
    have hs := scan_recs _ t hf.rows ht
    refine (log_gen hb hs (by rw [List.length_append]; omega) (by simpa using hl)).trans ?_
    rw [List.take_left]
    unfold sD fD logs
    by_cases he : es = []
    · subst he
      rw [if_pos rfl, if_pos (by rfl)]
    · rw [if_neg he, if_neg (fun e => he (recF_nil.mp (recsB_nil.mp e)))]

/-- Entries that the image stands for. -/
theorem open_old {n : Nat} {p : Bs} (hi : OkI (some (n, p))) {es : List Bs} (hn : es.length ≤ n) (hf : ∀ e ∈ es, e.length ≤ 65536) {t : Bs} (ht : t = [] ∨ decE t ≠ 0) :
    ledOpen (fD (some (n, p)) (recsB (recF 0 es) ++ t) none) pA = (sD (some (n, p)) [] none, 0, ⟨n, p, [], false⟩) := by
  refine open_parts (i := (0, n, p)) (g := (sD (some (n, p)) [] none, 0, [])) (rid_none (get_sh _ _)) (image_f hi _) rfl ?_
  by_cases hb : recsB (recF 0 es) ++ t = []
  · rw [hb]
    unfold logOf
    rw [logA_eq, frm, get_log, if_pos rfl]
    rfl
  · obtain ⟨lb, hl⟩ := takeAll_old n hi.1 es 0 (-1) (.inl rfl) (by omega) hf
    have hF : Fits 0 es := ⟨by have := hi.1; omega, hf⟩
    have hs := scan_recs _ t hF.rows ht
    refine (log_gen hb hs (by rw [List.length_append]; omega) hl).trans ?_
    rw [if_pos rfl]
    rfl
end Go.Proofs.Yteohbjkjfnflgaa

namespace Go.Proofs.Yteohbjkjfnflgaa
open Go.RowKit Go.Sat Go.Maps

def MM (im : Option (Nat × Bs)) (es : List Bs) : LedM := ⟨baseOf im, dataI im, es, false⟩

theorem MM_last (im : Option (Nat × Bs)) (es : List Bs) : (MM im es).last = baseOf im + es.length := rfl

theorem recs_app (n : Nat) (es : List Bs) (p : Bs) : recsB (recF n (es ++ [p])) = recsB (recF n es) ++ frameN (imgB (n + es.length + 1) p) := by
  rw [recF_app, recsB_app, recF_one, recsB_one]

theorem frame_ne (l : Bs) : frameN l ≠ [] := fun e => by
  have := frame_len l
  rw [e] at this
  simp at this

theorem recs_ne (n : Nat) (es : List Bs) (p : Bs) : recsB (recF n (es ++ [p])) ≠ [] := by
  rw [recs_app]
  simp [frame_ne]

theorem open_fresh : ledOpen (DiskM.fresh 65536) pA = (sD none [] none, 0, MM none []) := by
  have h := open_new (im := none) trivial (es := []) (t := []) ⟨by decide, fun e he => by cases he⟩ (.inl rfl)
  exact h

/-! ### A crash -/
theorem crash_f (im : Option (Nat × Bs)) (b : Bs) (f : Option Nat) (k : Int) : (fD im b f).crash k = fD im b none := by
  have h1 : ∀ c : Bs, DiskM.crashF k (whole c) = whole c := fun c => crash_whole c k
  unfold fD logs DiskM.crash
  cases im with
  | none =>
    split
    · rfl
    · show (⟨65536, [(logA, DiskM.crashF k (whole b))], none⟩ : DiskM) = _
      rw [h1]
      rfl
  | some x =>
    split
    · show (⟨65536, [(imgA, DiskM.crashF k (whole _))], none⟩ : DiskM) = _
      rw [h1]
      rfl
    · show (⟨65536, [(imgA, DiskM.crashF k (whole _)), (logA, DiskM.crashF k (whole b))], none⟩ : DiskM) = _
      rw [h1, h1]
      rfl
theorem crash_s (im : Option (Nat × Bs)) (es : List Bs) (f : Option Nat) (k : Int) : (sD im es f).crash k = sD im es none := crash_f _ _ _ _

theorem open_s {im : Option (Nat × Bs)} (hi : OkI im) {es : List Bs} (hf : Fits (baseOf im) es) : ledOpen (sD im es none) pA = (sD im es none, 0, MM im es) := by
  have h := open_new hi hf (t := []) (.inl rfl)
  rw [List.append_nil] at h
  exact h

/-! ### With a shadow beside -/
def fS (im : Option (Nat × Bs)) (g : FileM) (b : Bs) (f : Option Nat) : DiskM := ⟨65536, imgs im ++ (shA, g) :: logs b, f⟩
theorem put_sh (im : Option (Nat × Bs)) (g : FileM) (b : Bs) : put shA g (imgs im ++ logs b) = imgs im ++ (shA, g) :: logs b := by
  unfold logs
  cases im with
  | none => split <;> rfl
  | some x => split <;> rfl
theorem del_sh (im : Option (Nat × Bs)) (g : FileM) (b : Bs) : del shA (imgs im ++ (shA, g) :: logs b) = imgs im ++ logs b := by
  unfold logs
  cases im with
  | none => split <;> rfl
  | some x => split <;> rfl
theorem get_sh2 (im : Option (Nat × Bs)) (g : FileM) (b : Bs) : Sat.get shA (imgs im ++ (shA, g) :: logs b) = some g := by
  unfold logs
  cases im with
  | none => split <;> rfl
  | some x => split <;> rfl
theorem crash_S (im : Option (Nat × Bs)) (g : FileM) (b : Bs) (f : Option Nat) (k : Int) : (fS im g b f).crash k = fS im (DiskM.crashF k g) b none := by
  have h1 : ∀ c : Bs, DiskM.crashF k (whole c) = whole c := fun c => crash_whole c k
  unfold fS logs DiskM.crash
  cases im with
  | none =>
    split
    · rfl
    · show (⟨65536, [(shA, _), (logA, DiskM.crashF k (whole b))], none⟩ : DiskM) = _
      rw [h1]
      rfl
  | some x =>
    split
    · show (⟨65536, [(imgA, DiskM.crashF k (whole _)), (shA, _)], none⟩ : DiskM) = _
      rw [h1]
      rfl
    · show (⟨65536, [(imgA, DiskM.crashF k (whole _)), (shA, _), (logA, DiskM.crashF k (whole b))], none⟩ : DiskM) = _
      rw [h1, h1]
      rfl
theorem rid_S (im : Option (Nat × Bs)) (g : FileM) (b : Bs) : (fS im g b none).rid [shA] = (fD im b none, 0) := by
  refine (rid_some (f := g) (by intro e; cases e) (by decide) (get_sh2 im g b)).trans ?_
  show ((⟨_, del shA (imgs im ++ (shA, g) :: logs b), _⟩ : DiskM), 0) = _
  rw [del_sh]
  rfl
/-- The shadow goes first. -/
theorem open_S (im : Option (Nat × Bs)) (g : FileM) (b : Bs) : ledOpen (fS im g b none) pA = ledOpen (fD im b none) pA := by
  have h1 : (fD im b none).rid [shA] = (fD im b none, 0) := rid_none (get_sh im b)
  unfold ledOpen
  rw [shA_eq, rid_S, h1]
  rfl

/-- A log that is there, an empty one too. -/
def rawD (im : Option (Nat × Bs)) (c : Bs) (f : Option Nat) : DiskM := ⟨65536, imgs im ++ [(logA, whole c)], f⟩
theorem raw_eq (im : Option (Nat × Bs)) {c : Bs} (h : c ≠ []) (f : Option Nat) : rawD im c f = fD im c f := by
  unfold rawD fD logs
  rw [if_neg h]
theorem open_raw {im : Option (Nat × Bs)} (hi : OkI im) {es : List Bs} (hf : Fits (baseOf im) es) {t : Bs} (ht : t = [] ∨ decE t ≠ 0) :
    ledOpen (rawD im (recsB (recF (baseOf im) es) ++ t) none) pA = (sD im es none, 0, MM im es) := by
  by_cases hb : recsB (recF (baseOf im) es) ++ t = []
  · have h1 := List.append_eq_nil_iff.mp hb
    have h2 : es = [] := recF_nil.mp (recsB_nil.mp h1.1)
    subst h2
    rw [hb]
    refine open_parts (i := (0, baseOf im, dataI im)) (g := (sD im [] none, 0, [])) (rid_none (by cases im <;> rfl)) ?_ rfl ?_
    · have : Sat.get imgA (rawD im [] none).files = Sat.get imgA (imgs im ++ logs []) := by cases im <;> rfl
      rw [this]
      exact image_f hi _
    · have hg : Sat.get (logN pA) (rawD im [] none).files = some (whole []) := by cases im <;> rfl
      unfold logOf
      rw [hg]
      have hs : scan (whole []).data = ([], 0) := scan_stop (.inl rfl)
      dsimp only
      rw [hs]
      show (if _ then _ else if _ then _ else _) = _
      have hT : tornOff (rawD im [] none) (logN pA) 0 (whole []).data.length = (rawD im [] none, 0) := if_neg (by show ¬ (0 < 0); omega)
      dsimp only
      rw [hT, if_neg (by simp), if_pos rfl]
      have h2 := remove_ok (D := rawD im [] none) (n := logA) (f := whole []) (by intro e; cases e) (by decide) (by cases im <;> rfl)
      rw [logA_eq, h2]
      show ((⟨_, del logA (imgs im ++ [(logA, whole [])]), _⟩ : DiskM), _) = _
      rw [del_raw]
      unfold sD fD
      rw [show recsB (recF (baseOf im) []) = [] from rfl, logs_nil, List.append_nil]
      rfl
  · rw [raw_eq im hb]
    exact open_new hi hf ht

/-! ### Append -/
section
variable {im : Option (Nat × Bs)} {es : List Bs} {p : Bs}

theorem app_first (hi : OkI im) (hf : Fits (baseOf im) (es ++ [p])) : ¬ (65536 < p.length ∨ 1099511627776 ≤ (MM im es).last) := by
  have h1 := hf.1
  have h2 := hf.2 p (by simp)
  rw [List.length_append] at h1
  rw [MM_last]
  simp only [List.length_cons, List.length_nil] at h1
  omega

theorem lay_one {f : Option Nat} (hz : f ≠ some 0) (hroom : szI im + (recsB (recF (baseOf im) (es ++ [p]))).length ≤ 65536) :
    (sD im es f).append logA (frameN (imgB (baseOf im + es.length + 1) p)) = (⟨65536, imgs im ++ [(logA, ⟨recsB (recF (baseOf im) (es ++ [p])), (recsB (recF (baseOf im) es)).length⟩)], offF f 1⟩, 0) := by
  have h1 := append_ok (D := sD im es f) (n := logA) (b := frameN (imgB (baseOf im + es.length + 1) p)) hz (by decide) (by
    rw [recs_app, List.length_append] at hroom
    unfold sD
    rw [used_f]
    show _ ≤ 65536
    omega) (Nat.lt_of_le_of_lt (count_f im _) (by decide))
  rw [h1]
  unfold sD
  rw [cur_log]
  show ((⟨_, put logA _ (imgs im ++ logs _), _⟩ : DiskM), 0) = _
  rw [put_raw, recs_app]
  rfl

theorem lay_ok {f : Option Nat} (hz : ∀ j, f = some j → 2 ≤ j) (hroom : szI im + (recsB (recF (baseOf im) (es ++ [p]))).length ≤ 65536) :
    layOn (sD im es f) logA (frameN (imgB (baseOf im + es.length + 1) p)) = (sD im (es ++ [p]) (offF f 2), 0) := by
  have h0 : f ≠ some 0 := fun e => by have := hz 0 e; omega
  unfold layOn
  rw [lay_one h0 hroom, if_neg (by simp)]
  have h2 := sync_ok (D := ⟨65536, imgs im ++ [(logA, ⟨recsB (recF (baseOf im) (es ++ [p])), (recsB (recF (baseOf im) es)).length⟩)], offF f 1⟩) (n := logA) (f := ⟨recsB (recF (baseOf im) (es ++ [p])), (recsB (recF (baseOf im) es)).length⟩) (off_ne fun j e => by have := hz j e; omega) (by decide) (by cases im <;> rfl)
  refine h2.trans ?_
  show ((⟨_, put logA _ (imgs im ++ [(logA, _)]), offF (offF f 1) 1⟩ : DiskM), 0) = _
  rw [put_raw2, off_off]
  unfold sD fD logs
  rw [if_neg (recs_ne _ _ _)]
  rfl

theorem app_step {f : Option Nat} (hi : OkI im) (hz : ∀ j, f = some j → 2 ≤ j) (hf : Fits (baseOf im) (es ++ [p])) (hroom : szI im + (recsB (recF (baseOf im) (es ++ [p]))).length ≤ 65536) :
    ledAppend pA (sD im es f) (MM im es) p = ⟨sD im (es ++ [p]) (offF f 2), MM im (es ++ [p]), baseOf im + es.length + 1, 0⟩ := by
  unfold ledAppend
  rw [if_neg (by simp [MM]), if_neg (app_first hi hf), MM_last, logA_eq, lay_ok hz hroom, if_neg (by simp)]
  rfl

theorem app_cut0 (hi : OkI im) (hf : Fits (baseOf im) (es ++ [p])) : ledAppend pA (sD im es (some 0)) (MM im es) p = ⟨sD im es (some 0), (MM im es).die, 0, 9⟩ := by
  have h1 : layOn (sD im es (some 0)) logA (frameN (imgB (baseOf im + es.length + 1) p)) = (sD im es (some 0), 9) := by
    unfold layOn
    rw [append_dead rfl, if_pos (by simp)]
  unfold ledAppend
  rw [if_neg (by simp [MM]), if_neg (app_first hi hf), MM_last, logA_eq, h1, if_pos (by simp)]

theorem app_cut1 (hi : OkI im) (hf : Fits (baseOf im) (es ++ [p])) (hroom : szI im + (recsB (recF (baseOf im) (es ++ [p]))).length ≤ 65536) :
    ledAppend pA (sD im es (some 1)) (MM im es) p = ⟨⟨65536, imgs im ++ [(logA, ⟨recsB (recF (baseOf im) (es ++ [p])), (recsB (recF (baseOf im) es)).length⟩)], some 0⟩, (MM im es).die, 0, 9⟩ := by
  have h1 : layOn (sD im es (some 1)) logA (frameN (imgB (baseOf im + es.length + 1) p)) = (⟨65536, imgs im ++ [(logA, ⟨recsB (recF (baseOf im) (es ++ [p])), (recsB (recF (baseOf im) es)).length⟩)], some 0⟩, 9) := by
    unfold layOn
    rw [lay_one (by simp) hroom, if_neg (by simp)]
    exact sync_dead rfl
  unfold ledAppend
  rw [if_neg (by simp [MM]), if_neg (app_first hi hf), MM_last, logA_eq, h1, if_pos (by simp)]

/-- What was half written, behind a crash: the entries, and what is torn, or one more. -/
theorem crash_half (hi : OkI im) (hf : Fits (baseOf im) (es ++ [p])) (k : Int) : ∃ fs, (fs = es ∨ fs = es ++ [p]) ∧ ledOpen ((⟨65536, imgs im ++ [(logA, ⟨recsB (recF (baseOf im) (es ++ [p])), (recsB (recF (baseOf im) es)).length⟩)], some 0⟩ : DiskM).crash k) pA = (sD im fs none, 0, MM im fs) := by
  have hl := imgB_len (baseOf im + es.length + 1) p (by have := hf.1; simp at this; omega) (by have := hf.2 p (by simp); omega)
  have hp := hf.2 p (by simp)
  have hf' : Fits (baseOf im) es := ⟨by have := hf.1; simp at this; omega, fun e he => hf.2 e (by simp [he])⟩
  generalize hst : DiskM.stays ⟨recsB (recF (baseOf im) (es ++ [p])), (recsB (recF (baseOf im) es)).length⟩ k = s
  have h1 : (recsB (recF (baseOf im) es)).length ≤ s := by
    rw [← hst]
    exact Nat.le_add_right _ _
  have h2 : s ≤ (recsB (recF (baseOf im) (es ++ [p]))).length := by
    rw [← hst]
    have e1 : (recsB (recF (baseOf im) es)).length ≤ (recsB (recF (baseOf im) (es ++ [p]))).length := by rw [recs_app, List.length_append]; omega
    have := Nat.mod_lt (max 0 k).toNat (show 0 < (recsB (recF (baseOf im) (es ++ [p]))).length - (recsB (recF (baseOf im) es)).length + 1 by omega)
    show (recsB (recF (baseOf im) es)).length + (max 0 k).toNat % ((recsB (recF (baseOf im) (es ++ [p]))).length - (recsB (recF (baseOf im) es)).length + 1) ≤ _
    omega
  have hlen : ((recsB (recF (baseOf im) (es ++ [p]))).take s).length = s := by rw [List.length_take]; omega
  have hw : (⟨(recsB (recF (baseOf im) (es ++ [p]))).take s, s⟩ : FileM) = whole ((recsB (recF (baseOf im) (es ++ [p]))).take s) := by unfold whole; rw [hlen]
  have hc : (⟨65536, imgs im ++ [(logA, ⟨recsB (recF (baseOf im) (es ++ [p])), (recsB (recF (baseOf im) es)).length⟩)], some 0⟩ : DiskM).crash k = rawD im ((recsB (recF (baseOf im) (es ++ [p]))).take s) none := by
    have h3 : DiskM.crashF k ⟨recsB (recF (baseOf im) (es ++ [p])), (recsB (recF (baseOf im) es)).length⟩ = whole ((recsB (recF (baseOf im) (es ++ [p]))).take s) := by
      unfold DiskM.crashF
      rw [hst]
      exact hw
    cases im with
    | none =>
      show (⟨65536, [(logA, DiskM.crashF k _)], none⟩ : DiskM) = _
      exact congrArg (fun x => (⟨65536, [(logA, x)], none⟩ : DiskM)) h3
    | some x =>
      have h4 : DiskM.crashF k (whole (frameN (imgB x.1 x.2))) = whole (frameN (imgB x.1 x.2)) := crash_whole _ _
      show (⟨65536, [(imgA, DiskM.crashF k (whole (frameN (imgB x.1 x.2)))), (logA, DiskM.crashF k _)], none⟩ : DiskM) = _
      rw [h4]
      exact congrArg (fun y => (⟨65536, [(imgA, whole (frameN (imgB x.1 x.2))), (logA, y)], none⟩ : DiskM)) h3
  rw [hc]
  by_cases hs : s = (recsB (recF (baseOf im) (es ++ [p]))).length
  · refine ⟨_, .inr rfl, ?_⟩
    have := open_raw hi hf (t := []) (.inl rfl)
    rw [List.append_nil] at this
    rw [hs, List.take_length]
    exact this
  · refine ⟨_, .inl rfl, ?_⟩
    have e1 : (recsB (recF (baseOf im) (es ++ [p]))).take s = recsB (recF (baseOf im) es) ++ (frameN (imgB (baseOf im + es.length + 1) p)).take (s - (recsB (recF (baseOf im) es)).length) := by
      rw [recs_app, List.take_append, List.take_of_length_le h1]
    rw [e1]
    refine open_raw hi hf' (.inr (torn_dec _ (by omega) ?_))
    rw [recs_app, List.length_append] at h2 hs
    omega
end
end Go.Proofs.Yteohbjkjfnflgaa

namespace Go.Proofs.Yteohbjkjfnflgaa
open Go.RowKit Go.Sat Go.Maps

theorem ok_f {im : Option (Nat × Bs)} {b : Bs} {f : Option Nat} (h : szI im + b.length ≤ 65536) (hf : ∀ k, f = some k → k ≤ 9223372036854775807) : (fD im b f).OK := by
  have hn : ∀ p ∈ imgs im ++ logs b, okN p.1 = true ∧ p.2.lasts ≤ p.2.data.length := by
    intro p hp
    unfold logs at hp
    cases im with
    | none =>
      split at hp
      · cases hp
      · simp [imgs] at hp
        subst hp
        exact ⟨rfl, Nat.le_refl _⟩
    | some x =>
      split at hp
      · simp [imgs] at hp
        subst hp
        exact ⟨rfl, Nat.le_refl _⟩
      · simp [imgs] at hp
        rcases hp with hp | hp <;> subst hp <;> exact ⟨rfl, Nat.le_refl _⟩
  exact ⟨srt_files im b, show 65536 ≤ 1073741824 by decide, by rw [used_f]; exact h, Nat.le_trans (count_f im b) (by decide), fun p hp => (hn p hp).1, fun p hp => (hn p hp).2, hf⟩

section
variable {im : Option (Nat × Bs)} {b p : Bs} {f : Option Nat} {n : Nat}

theorem save_f (h : szI im + b.length + (imgB n p).length + 12 ≤ 65536) (hf : ∀ j, f = some j → 3 ≤ j ∧ j ≤ 9223372036854775807) : (fD im b f).save imgA (imgB n p) = (fD (some (n, p)) b (offF f 3), 0) := by
  refine (save_all (n := imgA) (ok_f (by omega) fun k e => (hf k e).2) (fun j e => (hf j e).1) (by decide) (by decide) (get_sh im b) (by rw [used_f]; exact h) (Nat.lt_of_le_of_lt (count_f im b) (by decide))).trans ?_
  show ((⟨_, put imgA (whole (frameN (imgB n p))) (imgs im ++ logs b), _⟩ : DiskM), 0) = _
  rw [put_img]
  rfl

theorem save_f_cut {j : Nat} (hj : j < 3) (h : szI im + b.length + (imgB n p).length + 12 ≤ 65536) : ∃ D', (fD im b (some j)).save imgA (imgB n p) = (D', 9) ∧ ∀ k, ledOpen (D'.crash k) pA = ledOpen (fD im b none) pA := by
  have hD : (fD im b (some j)).OK := ok_f (by omega) fun k e => by cases e; omega
  have hsh : Sat.get (shadowN imgA) (fD im b (some j)).files = none := get_sh im b
  have h0 : (fD im b (some j)).save0 imgA = (fD im b (some j), 0) := by unfold DiskM.save0; rw [hsh]; rfl
  have hr : (fD im b (some j)).used + (imgB n p).length + 12 ≤ (fD im b (some j)).room := by rw [used_f]; exact h
  have hcnt : (fD im b (some j)).files.length < 4096 := Nat.lt_of_le_of_lt (count_f im b) (by decide)
  have hput : ∀ g : FileM, put (shadowN imgA) g (fD im b (some j)).files = imgs im ++ (shA, g) :: logs b := fun g => put_sh im g b
  rw [save_room (by decide) (by decide)]
  by_cases hj0 : j = 0
  · subst hj0
    refine ⟨_, save1_app h0 (append_dead rfl) (by decide), fun k => ?_⟩
    rw [crash_f]
  · have hz : (fD im b (some j)).fuse ≠ some 0 := fun e => hj0 (Option.some.inj e)
    have ha := save_app (l := imgB n p) hD hz (n := imgA) (by decide) (by decide) hsh hr hcnt
    by_cases hj1 : j = 1
    · subst hj1
      refine ⟨_, save1_syn h0 ha (sync_dead rfl) (by decide), fun k => ?_⟩
      rw [hput]
      have := crash_S im ⟨frameN (imgB n p), 0⟩ b (some 0) k
      exact (congrArg (ledOpen · pA) this).trans (open_S _ _ _)
    · have hj2 : j = 2 := by omega
      subst hj2
      have hs := save_syn (l := imgB n p) (room := (fD im b (some 2)).room) hD.srt (f := offF (some 2) 1) (n := imgA) (by intro e; cases e) (by decide) (by decide)
      rw [save1_ren h0 ha hs]
      refine ⟨⟨65536, imgs im ++ (shA, ⟨frameN (imgB n p), (frameN (imgB n p)).length⟩) :: logs b, some 0⟩, ?_, fun k => ?_⟩
      · unfold DiskM.rename
        rw [may_burn rfl, if_pos (by decide), hput]
        rfl
      · have := crash_S im ⟨frameN (imgB n p), (frameN (imgB n p)).length⟩ b (some 0) k
        exact (congrArg (ledOpen · pA) this).trans (open_S _ _ _)

theorem rid_log (hf : b = [] ∨ f ≠ some 0) : (fD im b f).rid [logA] = (fD im [] (if b = [] then f else offF f 1), 0) := by
  by_cases hb : b = []
  · subst hb
    rw [if_pos rfl]
    exact rid_none (by show Sat.get logA (imgs im ++ logs []) = none; rw [get_log, if_pos rfl])
  · rw [if_neg hb]
    refine (rid_some (f := whole b) (hf.resolve_left hb) (by decide) (by show Sat.get logA (imgs im ++ logs b) = _; rw [get_log, if_neg hb])).trans ?_
    show ((⟨_, del logA (imgs im ++ logs b), _⟩ : DiskM), 0) = _
    rw [del_log]
    rfl
theorem rid_log_dead (hb : b ≠ []) : (fD im b (some 0)).rid [logA] = (fD im b (some 0), 9) :=
  rid_dead (f := whole b) rfl (by show Sat.get logA (imgs im ++ logs b) = _; rw [get_log, if_neg hb])

theorem img_ok (h : szI im + b.length + (imgB n p).length + 12 ≤ 65536) (hf : ∀ j, f = some j → 4 ≤ j ∧ j ≤ 9223372036854775807) : ∃ f', imgOn pA (fD im b f) n p = (fD (some (n, p)) [] f', 0) ∧ (f = none → f' = none) := by
  refine ⟨if b = [] then offF f 3 else offF (offF f 3) 1, ?_, fun e => by subst e; split <;> rfl⟩
  unfold imgOn
  rw [imgA_eq, save_f h fun j e => ⟨by have := (hf j e).1; omega, (hf j e).2⟩, if_neg (by simp), logA_eq]
  exact rid_log (.inr (off_ne fun j e => by have := (hf j e).1; omega))

theorem img_any (h : szI im + b.length + (imgB n p).length + 12 ≤ 65536) (hf : ∀ j, f = some j → j ≤ 9223372036854775807) :
    (∃ f', imgOn pA (fD im b f) n p = (fD (some (n, p)) [] f', 0)) ∨ ∃ D', imgOn pA (fD im b f) n p = (D', 9) ∧ ((∀ k, ledOpen (D'.crash k) pA = ledOpen (fD im b none) pA) ∨ ∀ k, ledOpen (D'.crash k) pA = ledOpen (fD (some (n, p)) b none) pA) := by
  by_cases h4 : ∀ j, f = some j → 4 ≤ j
  · obtain ⟨f', h1, -⟩ := img_ok h fun j e => ⟨h4 j e, hf j e⟩
    exact .inl ⟨f', h1⟩
  · obtain ⟨j, hj⟩ := Classical.not_forall.mp h4
    obtain ⟨e, hj⟩ := Classical.not_imp.mp hj
    subst e
    by_cases h3 : j = 3
    · subst h3
      have hs := save_f (f := some 3) h fun j e => by cases e; decide
      by_cases hb : b = []
      · refine .inl ⟨some 0, ?_⟩
        unfold imgOn
        rw [imgA_eq, hs, if_neg (by simp), logA_eq, rid_log (.inl hb), if_pos hb]
        rfl
      · refine .inr ⟨fD (some (n, p)) b (some 0), ?_, .inr fun k => by rw [crash_f]⟩
        unfold imgOn
        rw [imgA_eq, hs, if_neg (by simp), logA_eq]
        exact rid_log_dead hb
    · obtain ⟨D', h1, h2⟩ := save_f_cut (j := j) (by omega) h
      refine .inr ⟨D', ?_, .inl h2⟩
      unfold imgOn
      rw [imgA_eq, h1, if_pos (by simp)]
end

section
variable {im : Option (Nat × Bs)} {es : List Bs} {p : Bs} {f : Option Nat} {n : Nat}

theorem wri_ok_s (hl : baseOf im + es.length ≤ n) (hn : n ≤ 1099511627776) (hp : p.length ≤ 524288) (h : szI im + (recsB (recF (baseOf im) es)).length + (imgB n p).length + 12 ≤ 65536) :
    ledWrite pA (sD im es none) (MM im es) (n : Int) p = ⟨sD (some (n, p)) [] none, MM (some (n, p)) [], 0, 0⟩ := by
  obtain ⟨f', h1, h2⟩ := img_ok (f := none) h fun j e => by cases e
  rw [h2 rfl] at h1
  unfold ledWrite
  rw [if_neg (by simp [MM]), if_neg (by rw [MM_last]; omega), if_neg (by omega), Int.toNat_natCast]
  unfold sD
  rw [h1, if_neg (by simp)]
  rfl

/-- Whatever the fuse: it is written, or dead; behind a crash it opens as before, or as it was to be. -/
theorem wri_any (hi : OkI (some (n, p))) (him : im = none) (hF : Fits 0 es) (hl : es.length ≤ n) (hn : n ≤ 1099511627776) (hp : p.length ≤ 524288) (h : szI im + (recsB (recF (baseOf im) es)).length + (imgB n p).length + 12 ≤ 65536) (hf : ∀ j, f = some j → j ≤ 9223372036854775807) :
    ∃ D' M' e, ledWrite pA (sD im es f) (MM im es) (n : Int) p = ⟨D', M', 0, e⟩ ∧
      ((e = 0 ∧ ∀ k, ledOpen (D'.crash k) pA = (sD (some (n, p)) [] none, 0, MM (some (n, p)) [])) ∨
        (e = 9 ∧ ((∀ k, ledOpen (D'.crash k) pA = (sD none es none, 0, MM none es)) ∨ ∀ k, ledOpen (D'.crash k) pA = (sD (some (n, p)) [] none, 0, MM (some (n, p)) [])))) := by
  subst him
  have hE : ∀ r : DiskM × Nat, imgOn pA (fD none (recsB (recF (baseOf none) es)) f) n p = r → ledWrite pA (sD none es f) (MM none es) (n : Int) p = if r.2 ≠ 0 then ⟨r.1, (MM none es).die, 0, r.2⟩ else ⟨r.1, MM (some (n, p)) [], 0, 0⟩ := by
    intro r hr
    unfold ledWrite
    rw [if_neg (by simp [MM]), if_neg (by rw [MM_last, show baseOf none = 0 from rfl]; omega), if_neg (by omega), Int.toNat_natCast]
    unfold sD
    rw [hr]
    rfl
  have hold := open_old hi (es := es) hl hF.2 (t := []) (.inl rfl)
  rw [List.append_nil] at hold
  rcases img_any (f := f) h hf with ⟨f', h1⟩ | ⟨D', h1, h2⟩
  · refine ⟨fD (some (n, p)) [] f', MM (some (n, p)) [], 0, ?_, .inl ⟨rfl, fun k => ?_⟩⟩
    · rw [hE _ h1, if_neg (by simp)]
    show ledOpen ((fD (some (n, p)) [] f').crash k) pA = _
    rw [crash_f]
    have h5 : Fits n [] := ⟨by simpa using hn, fun e he => by cases he⟩
    have h6 := open_s (im := some (n, p)) (es := []) hi h5
    exact h6
  · refine ⟨D', (MM none es).die, 9, by rw [hE _ h1, if_pos (by simp)], .inr ⟨rfl, h2.imp (fun h k => (h k).trans ?_) fun h k => (h k).trans ?_⟩⟩
    · exact open_s (im := none) trivial hF
    · exact hold
end

/-! ### How many bytes they take -/
theorem recs_len : ∀ {n : Nat} {es : List Bs}, Fits n es → (recsB (recF n es)).length ≤ es.flatten.length + 30 * es.length
  | _, [], _ => Nat.le_refl _
  | n, e :: r, h => by
    have h1 := h.1
    simp only [List.length_cons] at h1
    have h2 := h.2 e (by simp)
    have h3 := imgB_len (n + 1) e (by omega) (by omega)
    have h4 := recs_len (n := n + 1) (es := r) ⟨by omega, fun e he => h.2 e (by simp [he])⟩
    show (frameN (imgB (n + 1) e) ++ recsB (recF (n + 1) r)).length ≤ _
    rw [List.length_append, frame_len, List.flatten_cons, List.length_append, List.length_cons]
    omega
theorem szI_some {n : Nat} {p : Bs} (hn : n ≤ 4611686018427387904) (hp : p.length ≤ 4611686018427387904) : szI (some (n, p)) ≤ p.length + 30 := by
  have := imgB_len n p hn hp
  show (frameN (imgB n p)).length ≤ _
  rw [frame_len]
  omega
theorem szI_none : szI none = 0 := rfl
end Go.Proofs.Yteohbjkjfnflgaa

namespace Go.Proofs.Yteohbjkjfnflgaa
open Go.RowKit Go.Sat Go.Maps

theorem lit_in {W : World} {e : TypeId} {fr : Nat × Nat} {cs : Array Value} {l : Bs} {g n c : Nat} (hb : W.heap[g]? = some (.cells cs e fr)) (hn : n = l.length) (h : cs.toList = bytesV l) : HasB W (.slice (some ⟨g, 0, none⟩) n c) l := by
  subst hn
  refine ⟨by simp [bytesV], some ⟨g, 0, none⟩, c, rfl, fun e => (by cases e), fun a ha i u hu => ?_⟩
  cases ha
  rw [add_zero]
  refine cell_of hb ?_
  rw [← h] at hu
  simpa using hu

/-- A row, made a string. -/
theorem conv_str {P : Program} {W : World} {src dst e : TypeId} (hs : P.underlying src = some (.slice e)) (he : P.underlying e = some (.int .u8)) (hd : P.underlying dst = some .string) {v : Value} {l : Bs} (h : HasB W v l) :
    (convert src dst v).run P W = .ok (.string ⟨l.toArray⟩) W := by
  obtain ⟨_, p, c, rfl, h0, hc⟩ := h
  cases p with
  | none =>
    obtain rfl : l = [] := List.eq_nil_of_length_eq_zero (h0 rfl)
    exact Go.run_convert_bytes_nil W src e hs he _ _ dst hd
  | some a =>
    have hl := run_loadCells_list (P := P) W a (bytesV l) (fun j v hj => hc a rfl j v hj)
    have e1 : bytesV l = (Lib.numsL l).map (Value.int .u8) := by simp [bytesV, Lib.numsL, List.map_map, Function.comp_def]
    have e2 : (bytesV l).length = l.length := bytesV_len l
    rw [e2, e1] at hl
    rw [run_convert_bytes_string W src dst e _ _ c hs he hd, run_bytesToString W a l.length c (Lib.numsL l) hl, foldl_push_bytes]
    congr 2
    simp [Lib.numsL, List.map_map, Function.comp_def, ByteArray.empty, ByteArray.emptyWithCapacity]
    rfl

section
variable {w w1 : World} {l d : Nat} {pre : ByteArray} {D : DiskM} {M : LedM} {F : Nat → Prop}

/-- Append of a text that stands in the code. -/
theorem app_lit (h : LedF w w1 l d pre D M F) (cs : Array Value) (b : Bs) (hcs : cs.toList = bytesV b) {n c : Nat} (hn : n = b.length) (hb47 : b.length ≤ 140737488355328) (fr : Nat × Nat) :
    Calls Try.prog 12 #[.pointer (some ⟨l, 0, none⟩), .slice (some ⟨w1.heap.size, 0, none⟩) n c] (w1.alloc (.cells cs 5 fr)) fun e w' => e = .returned (.tuple #[.int .i64 ((ledAppend (nm pre) D M b).num : Int), .int .i64 ((ledAppend (nm pre) D M b).err : Int)]) ∧ LedF w w' l d pre (ledAppend (nm pre) D M b).disk (ledAppend (nm pre) D M b).led F ∧ Same F w1 w' := by
  refine (lappend_calls (h.box (.cells cs 5 fr)) (b := b) (fun W _ hW => lit_in ((hW _ (.inr rfl)).trans (new_block w1 _)) hn hcs) hb47).mono ?_
  rintro e w' ⟨rfl, hL, hs⟩
  exact ⟨rfl, hL.less fun k hk => .inl hk, fun k hk => (hs k (.inl hk)).trans (h.same (below_one w1 _) k hk)⟩

theorem wri_lit (h : LedF w w1 l d pre D M F) (i : Int) (hir : -9223372036854775808 ≤ i ∧ i ≤ 9223372036854775807) (cs : Array Value) (b : Bs) (hcs : cs.toList = bytesV b) {n c : Nat} (hn : n = b.length) (hb47 : b.length ≤ 140737488355328) (fr : Nat × Nat) :
    Calls Try.prog 13 #[.pointer (some ⟨l, 0, none⟩), .int .i64 i, .slice (some ⟨w1.heap.size, 0, none⟩) n c] (w1.alloc (.cells cs 5 fr)) fun e w' => e = .returned (.int .i64 ((ledWrite (nm pre) D M i b).err : Int)) ∧ LedF w w' l d pre (ledWrite (nm pre) D M i b).disk (ledWrite (nm pre) D M i b).led F ∧ Same F w1 w' := by
  refine (lwrite_calls (h.box (.cells cs 5 fr)) i hir (b := b) (fun W _ hW => lit_in ((hW _ (.inr rfl)).trans (new_block w1 _)) hn hcs) hb47).mono ?_
  rintro e w' ⟨rfl, hL, hs⟩
  exact ⟨rfl, hL.less fun k hk => .inl hk, fun k hk => (hs k (.inl hk)).trans (h.same (below_one w1 _) k hk)⟩
end

/-- An opening that is a ledger. -/
theorem open_is {w w1 : World} {d : Nat} {D D' : DiskM} {M : LedM} {F : Nat → Prop} (h : St w w1 d D F) (he : ledOpen D pA = (D', 0, M)) :
    Calls Try.prog 11 #[.pointer (some ⟨d, 0, none⟩), .string sA] w1 fun e w' => ∃ l, e = .returned (.tuple #[.pointer (some ⟨l, 0, none⟩), .int .i64 0]) ∧ LedF w w' l d sA D' M F ∧ Same F w1 w' := by
  have h1 := open_calls h sA
  rw [show nm sA = pA from rfl, he] at h1
  refine h1.mono ?_
  rintro e w' ⟨-, hs, ⟨-, l, rfl, hL⟩ | ⟨hne, -⟩⟩
  · exact ⟨l, rfl, hL, hs⟩
  · exact absurd rfl hne

def bx : Bs := [120]
def by1 : Bs := [121]
def bz : Bs := [122]

theorem fits_one {n : Nat} {p : Bs} (hn : n + 1 ≤ 1099511627776) (hp : p.length ≤ 65536) : Fits n [p] := ⟨hn, fun e he => by simp at he; subst he; exact hp⟩

theorem kn1 : ledAppend (nm sA) (sD none [] none) (MM none []) bx = ⟨sD none [bx] none, MM none [bx], 1, 0⟩ := by
  have hf : Fits 0 [bx] := fits_one (by decide) (by decide)
  refine app_step (im := none) (es := []) (p := bx) (f := none) trivial (fun j e => by cases e) hf ?_
  have h1 := recs_len hf
  have h2 : [bx].flatten.length + 30 * [bx].length = 31 := rfl
  show 0 + (recsB (recF 0 [bx])).length ≤ _
  omega
theorem kn2 : ledWrite (nm sA) (sD none [bx] none) (MM none [bx]) 1 by1 = ⟨sD (some (1, by1)) [] none, MM (some (1, by1)) [], 0, 0⟩ := by
  have hf : Fits 0 [bx] := fits_one (by decide) (by decide)
  refine wri_ok_s (im := none) (es := [bx]) (n := 1) (p := by1) (by decide) (by decide) (by decide) ?_
  have h1 := recs_len hf
  have h2 : [bx].flatten.length + 30 * [bx].length = 31 := rfl
  have h3 : by1.length = 1 := rfl
  have h4 := imgB_len 1 by1 (by decide) (by decide)
  show 0 + (recsB (recF 0 [bx])).length + (imgB 1 by1).length + 12 ≤ _
  omega
theorem kn3 : ledAppend (nm sA) (sD (some (1, by1)) [] none) (MM (some (1, by1)) []) bz = ⟨sD (some (1, by1)) [bz] none, MM (some (1, by1)) [bz], 2, 0⟩ := by
  have hf : Fits 1 [bz] := fits_one (by decide) (by decide)
  refine app_step (im := some (1, by1)) (es := []) (p := bz) (f := none) ⟨by decide, by decide⟩ (fun j e => by cases e) hf ?_
  have h1 := recs_len hf
  have h2 : [bz].flatten.length + 30 * [bz].length = 31 := rfl
  have h3 : by1.length = 1 := rfl
  have h4 := szI_some (n := 1) (p := by1) (by decide) (by decide)
  show szI (some (1, by1)) + (recsB (recF 1 [bz])).length ≤ _
  omega

set_option maxRecDepth 100000 in
set_option maxHeartbeats 4000000 in
theorem knownL_calls (w : World) : Calls Try.prog 9 #[] w (True3 w) := by
  have Hnew := Lib.hid (st_new (w := w) (w1 := w) 65536 (by decide) (by decide) (Below.refl _ _))
  have kc := fun (w : World) (C : Array Value) (n c : Nat) => Lib.run_convert_bytes_const (P := Try.prog) w 33 5 C n c Try.underlying33 Try.underlying5
  go_enter Try.func9, Try.ntmps9
  go_wp2_with fail
  refine Hnew.out.mono ?_
  rintro e w1 ⟨d, rfl, hd⟩
  have Hop := Lib.hid (open_is (D := DiskM.fresh 65536) hd open_fresh)
  clear hd Hnew
  go_wp2_with fail
  refine Hop.out.mono ?_
  rintro e w2 ⟨l, rfl, hl, -⟩
  have Happ := Lib.hid (app_lit hl #[.int .u8 120] bx rfl (n := 1) (c := 1) rfl (by decide) (1, 2))
  rw [kn1] at Happ
  clear hl Hop
  go_wp2_with fail
  refine Happ.out.mono ?_
  rintro e w3 ⟨rfl, hl, -⟩
  have Hwri := Lib.hid (wri_lit hl 1 (by decide) #[.int .u8 121] by1 rfl (n := 1) (c := 1) rfl (by decide) (1, 2))
  rw [kn2] at Hwri
  clear hl Happ
  go_wp2_with fail
  refine Hwri.out.mono ?_
  rintro e w4 ⟨rfl, hl, -⟩
  have Happ := Lib.hid (app_lit hl #[.int .u8 122] bz rfl (n := 1) (c := 1) rfl (by decide) (1, 2))
  rw [kn3] at Happ
  clear hl Hwri
  go_wp2_with fail
  refine Happ.out.mono ?_
  rintro e w5 ⟨rfl, hl, -⟩
  have Hl := Lib.hid hl
  have Hba := Lib.hid (base_calls hl)
  clear hl Happ
  go_wp2_with fail
  refine Hba.out.mono ?_
  rintro e w6 ⟨v, rfl, hv, -, hb⟩
  have Hl6 := Lib.hid (Hl.out.next hb)
  have Hla := Lib.hid (last_calls (Hl.out.next hb))
  have Hcv := Lib.hid (conv_str (P := Try.prog) (W := w6) (dst := 9) Try.underlying33 Try.underlying5 Try.underlying9 (OwnB.has hv))
  clear hv hb Hba Hl
  have kv := Hcv.out
  go_wp2_with fail
  refine Hla.out.mono ?_
  rintro e w7 ⟨rfl, q, rfl⟩
  have Hb := Lib.hid ((Hl6.out.next (w2 := w6.drewN q) ⟨rfl, rfl, rfl, Nat.le_refl _, fun _ _ => rfl⟩).bel)
  go_wp2_with fail
  go_ret
  exact ⟨rfl, Hb.out⟩
end Go.Proofs.Yteohbjkjfnflgaa

namespace Go.Proofs.Yteohbjkjfnflgaa
open Go.RowKit Go.Sat Go.Maps

section
variable {w w1 : World} {l d : Nat} {pre : ByteArray} {D D' : DiskM} {M : LedM} {F : Nat → Prop}
theorem led_disk0 {P : Program} {f : FuncId} {args : Array Value} (h : LedF w w1 l d pre D M F) (hx : ∀ G, St w w1 d D G → Calls P f args w1 (Told0 w d G w1 D')) :
    Calls P f args w1 fun e w' => e = .returned (.tuple #[]) ∧ LedF w w' l d pre D' M F ∧ Same F w1 w' := by
  obtain ⟨own, dv, ev, vs, hL, hS, hn, hl⟩ := h
  refine (hx _ hS).mono ?_
  rintro e w' ⟨rfl, hS', hs⟩
  exact ⟨rfl, ⟨own, dv, ev, vs, hL.keep (fun k hk => hs k (.inl hk)) fun k hk => hS'.flt (.inl hk), hS', hn, fun k hk => hS'.flt (.inr hk)⟩, fun k hk => hs k (.inr hk)⟩

theorem led_fuse (h : LedF w w1 l d pre D M F) (n : Int) (hn0 : -9223372036854775808 ≤ n) (hn : n ≤ 9223372036854775807) :
    Calls Try.prog 16 #[.pointer (some ⟨d, 0, none⟩), .int .i64 n] w1 fun e w' => e = .returned (.tuple #[]) ∧ LedF w w' l d pre (D.setFuse n) M F ∧ Same F w1 w' :=
  led_disk0 h fun _ hS => st_fuse hS n hn0 hn
end

section
variable {w w1 : World} {l d : Nat} {pre : ByteArray} {D : DiskM} {M : LedM} {F : Nat → Prop}
theorem last_is (h : LedF w w1 l d pre D M F) {m : Nat} (hm : M.last = m) :
    Calls Try.prog 15 #[.pointer (some ⟨l, 0, none⟩)] w1 fun e w' => e = .returned (.int .i64 (m : Int)) ∧ LedF w w' l d pre D M F := by
  refine (last_calls h).mono ?_
  rintro e w' ⟨rfl, q, rfl⟩
  exact ⟨by rw [hm], h.next ⟨rfl, rfl, rfl, Nat.le_refl _, fun _ _ => rfl⟩⟩
end

theorem below_on {w W W' : World} (h : Below w.heap.size w W) (k : Below W.heap.size W W') : Below w.heap.size w W' := h.trans (k.mono h.size)

section
variable {w w1 w2 w3 : World} {l d : Nat} {pre : ByteArray} {D : DiskM} {M : LedM} {F : Nat → Prop}

/-- Append of a row that was handed in. -/
theorem app_arg (h : LedF w w1 l d pre D M F) {pp : Option Addr} {n c : Nat} {b : Bs} (hv : HasB w (.slice pp n c) b) (hb47 : b.length ≤ 140737488355328) :
    Calls Try.prog 12 #[.pointer (some ⟨l, 0, none⟩), .slice pp n c] w1 (AppTold w w1 l d pre F (ledAppend (nm pre) D M b)) :=
  lappend_calls h (fun _ hW _ => HasB.old hv hW) hb47

theorem led_get (h : LedF w w1 l d pre D M F) (s : ByteArray) (hs : s.size ≤ 9223372036854775807) :
    Calls Try.prog 20 #[.pointer (some ⟨d, 0, none⟩), .string s] w1 fun e w' => ∃ p c, e = .returned (.tuple #[.slice p (dataOf (Sat.get (nm s) D.files)).length c, .int .i64 (readE (Sat.get (nm s) D.files))]) ∧ Below w1.heap.size w1 w' ∧ LedF w w' l d pre D M F := by
  refine (st_read h.st s hs).mono ?_
  rintro e w' ⟨v, rfl, hv, -, hb, -⟩
  obtain ⟨p, c, rfl⟩ := (OwnB.has hv).slice
  exact ⟨p, c, rfl, hb, h.next hb⟩

/-- A row of the law's own has grown: the ledger is where it was. -/
theorem led_grow {va va' : Value} {e : TypeId} {size m : Nat} {ys : List Value} (h : LedF w w2 l d pre D M (fun j => va.ownBlock = some j)) (hn : ∀ j, va.ownBlock = some j → w.heap.size ≤ j)
    (hg : w2.grownBy w3 va.ownBlock) (hl : va'.ownBlock = va.ownBlock ∨ ∃ g, va'.ownBlock = some g ∧ w2.heap.size ≤ g) (hr : OwnR w3 e size va' m ys) :
    LedF w w3 l d pre D M (fun j => va'.ownBlock = some j) ∧ ∀ j, va'.ownBlock = some j → w.heap.size ≤ j := by
  refine ⟨h.move (Chg.of_grown hg) (fun k _ e => ⟨e.symm, hn k e.symm⟩) fun k hk => ⟨?_, hr.lt hk⟩, fun j hj => ?_⟩
  · rcases hl with e | ⟨g, e, hge⟩
    · exact .inl (by rw [← e]; exact hk)
    · rw [e] at hk
      cases hk
      exact .inr hge
  · rcases hl with e | ⟨g, e, hge⟩
    · exact hn j (by rw [← e]; exact hj)
    · rw [e] at hj
      cases hj
      have := h.bel.size
      omega
end
end Go.Proofs.Yteohbjkjfnflgaa

namespace Go.Proofs.Yteohbjkjfnflgaa
open Go.RowKit Go.Sat Go.Maps

/-- What a ledger of this prefix has on a disk. -/
structure Lies (pre : Bs) (D : DiskM) (im : Option (Nat × Bs)) (es : List Bs) : Prop where
  log : Sat.get (logN pre) D.files = if es = [] then none else some (whole (recsB (recF (baseOf im) es)))
  img : Sat.get (imgN pre) D.files = im.map fun x => whole (frameN (imgB x.1 x.2))
  sh : Sat.get (shadowN (imgN pre)) D.files = none

structure Tame (D : DiskM) (u c : Nat) : Prop where
  room : D.room = 65536
  fuse : D.fuse = none
  used : D.used ≤ u
  count : D.files.length ≤ c

theorem log_ok {pre : Bs} (h : pre.length ≤ 20) : okN (logN pre) = true := by
  have : (logN pre).length = pre.length + 4 := by simp [logN, logX]
  simp [okN, this]
  omega
theorem img_len (pre : Bs) : (imgN pre).length = pre.length + 4 := by simp [imgN, imgX]
theorem img_ok2 {pre : Bs} (h : pre.length ≤ 20) : okN (imgN pre) = true := by
  simp [okN, img_len]
  omega
theorem log_img (pre : Bs) : logN pre ≠ imgN pre := fun e => by
  have := List.append_cancel_left e
  exact absurd this (by decide)
theorem log_sh (pre : Bs) : logN pre ≠ shadowN (imgN pre) := fun e => by
  have := congrArg List.length e
  rw [shadow_len, img_len] at this
  simp [logN, logX] at this
theorem img_sh (pre : Bs) : imgN pre ≠ shadowN (imgN pre) := shadow_ne _

theorem lies_img {pre : Bs} {D : DiskM} {im : Option (Nat × Bs)} {es : List Bs} (h : Lies pre D im es) (hi : OkI im) : imageOf (Sat.get (imgN pre) D.files) = (0, baseOf im, dataI im) := by
  rw [h.img]
  cases im with
  | none => exact image_none
  | some x => exact image_some x.1 x.2 hi.1 hi.2

theorem openG {D D1 : DiskM} {pre : Bs} {i : Nat × Nat × Bs} {g : DiskM × Nat × List Bs} (hp : 1 ≤ pre.length ∧ pre.length ≤ 20) (h1 : D.rid [shadowN (imgN pre)] = (D1, 0)) (hi : imageOf (Sat.get (imgN pre) D1.files) = i) (hi0 : i.1 = 0) (hg : logOf D1 pre i.2.1 = g) : ledOpen D pre = (g.1, g.2.1, ⟨i.2.1, i.2.2, g.2.2, false⟩) := by
  unfold ledOpen
  rw [if_neg (by omega), h1]
  rw [if_neg (by simp)]
  dsimp only
  rw [hi, if_neg (by simpa using hi0), hg]

theorem open_lies {pre : Bs} {D : DiskM} {im : Option (Nat × Bs)} {es : List Bs} (hp : 1 ≤ pre.length ∧ pre.length ≤ 20) (h : Lies pre D im es) (hi : OkI im) (hf : Fits (baseOf im) es) : ledOpen D pre = (D, 0, MM im es) := by
  refine openG (i := (0, baseOf im, dataI im)) (g := (D, 0, es)) hp (rid_none h.sh) (lies_img h hi) rfl ?_
  unfold logOf
  rw [h.log]
  by_cases he : es = []
  · subst he
    rw [if_pos rfl]
  · rw [if_neg he]
    obtain ⟨lb, hl⟩ := takeAll_new (baseOf im) es [] (-1) (.inl rfl) (by simpa using hf)
    have hs := scan_recs (recF (baseOf im) es) [] hf.rows (.inl rfl)
    rw [List.append_nil] at hs
    have hl' : takeAll (baseOf im) (-1, []) (recF (baseOf im) es) = some (lb, es) := by simpa using hl
    have hT : tornOff D (logN pre) (recsB (recF (baseOf im) es)).length (recsB (recF (baseOf im) es)).length = (D, 0) := if_neg (by omega)
    dsimp only
    show (match takeAll (baseOf im) (-1, []) (scan (recsB (recF (baseOf im) es))).1 with | none => _ | some s => _) = _
    rw [hs, hl']
    dsimp only
    rw [show (whole (recsB (recF (baseOf im) es))).data = recsB (recF (baseOf im) es) from rfl, hs, hT, if_neg (by simp), if_neg he]

theorem used_put (n : Bs) (f : FileM) (L : List (Bs × FileM)) (h : Srt L) : sumBy DiskM.size (put n f L) ≤ f.data.length + sumBy DiskM.size L := by
  rw [sum_put]
  have : sumBy DiskM.size (del n L) ≤ sumBy DiskM.size L := by
    cases hg : Sat.get n L with
    | none => rw [del_none hg]; exact Nat.le_refl _
    | some a =>
      rw [sum_del h hg]
      omega
  show f.data.length + _ ≤ _
  omega
theorem used_del (n : Bs) (L : List (Bs × FileM)) (h : Srt L) : sumBy DiskM.size (del n L) ≤ sumBy DiskM.size L := by
  cases hg : Sat.get n L with
  | none => rw [del_none hg]; exact Nat.le_refl _
  | some a =>
    rw [sum_del h hg]
    omega
theorem count_del (n : Bs) (L : List (Bs × FileM)) (h : Srt L) : (del n L).length ≤ L.length := by
  cases hg : Sat.get n L with
  | none => rw [del_none hg]; exact Nat.le_refl _
  | some a =>
    rw [len_del h hg]
    omega
theorem count_put (n : Bs) (f : FileM) (L : List (Bs × FileM)) (h : Srt L) : (put n f L).length ≤ L.length + 1 := by
  rw [len_put]
  have := count_del n L h
  omega
/-- A file that grows. -/
theorem used_app {D : DiskM} (h : Srt D.files) (n b : Bs) (k : Nat) : sumBy DiskM.size (put n ⟨(D.cur n).data ++ b, k⟩ D.files) ≤ D.used + b.length := by
  rw [sum_put]
  have hu : D.used = DiskM.size (D.cur n) + sumBy DiskM.size (del n D.files) := by
    unfold DiskM.used DiskM.cur
    cases hg : Sat.get n D.files with
    | none =>
      rw [del_none hg]
      show _ = 0 + _
      omega
    | some a => exact sum_del h hg
  rw [hu]
  show ((D.cur n).data ++ b).length + _ ≤ (D.cur n).data.length + _ + _
  rw [List.length_append]
  omega

section
variable {pre : Bs} {D : DiskM} {im : Option (Nat × Bs)} {es : List Bs} {u c : Nat} {p : Bs}

theorem app_lies (hp : pre.length ≤ 20) (hO : D.OK) (hT : Tame D u c) (h : Lies pre D im es) (hi : OkI im) (hf : Fits (baseOf im) (es ++ [p])) (hu : u + p.length + 30 ≤ 65536) (hc : c < 4096) :
    ∃ D2, ledAppend pre D (MM im es) p = ⟨D2, MM im (es ++ [p]), baseOf im + es.length + 1, 0⟩ ∧ Lies pre D2 im (es ++ [p]) ∧ Tame D2 (u + p.length + 30) (c + 1) ∧ ∀ m, m ≠ logN pre → Sat.get m D2.files = Sat.get m D.files := by
  have hn := log_ok hp
  have hz : D.fuse ≠ some 0 := by rw [hT.fuse]; intro e; cases e
  have hl := imgB_len (baseOf im + es.length + 1) p (by have := hf.1; simp at this; omega) (by have := hf.2 p (by simp); omega)
  have hfl := frame_len (imgB (baseOf im + es.length + 1) p)
  have h1 := append_ok (D := D) (n := logN pre) (b := frameN (imgB (baseOf im + es.length + 1) p)) hz hn (by have := hT.used; rw [hT.room]; omega) (by have := hT.count; omega)
  have hcur : (D.cur (logN pre)).data = recsB (recF (baseOf im) es) := by
    unfold DiskM.cur
    rw [h.log]
    by_cases he : es = []
    · rw [if_pos he, he]
      rfl
    · rw [if_neg he]
      rfl
  have hg1 : Sat.get (logN pre) (put (logN pre) ⟨(D.cur (logN pre)).data ++ frameN (imgB (baseOf im + es.length + 1) p), (D.cur (logN pre)).lasts⟩ D.files) = some _ := get_put_same hO.srt _ _
  have h2 := sync_ok (D := ⟨D.room, put (logN pre) ⟨(D.cur (logN pre)).data ++ frameN (imgB (baseOf im + es.length + 1) p), (D.cur (logN pre)).lasts⟩ D.files, offF D.fuse 1⟩) (n := logN pre) (by rw [hT.fuse]; intro e; cases e) hn hg1
  rw [hcur, ← recs_app] at h1 h2
  have hL : layOn D (logN pre) (frameN (imgB (baseOf im + es.length + 1) p)) = (⟨D.room, put (logN pre) (whole (recsB (recF (baseOf im) (es ++ [p])))) D.files, none⟩, 0) := by
    unfold layOn
    rw [h1, if_neg (by simp)]
    refine h2.trans ?_
    show ((⟨_, put (logN pre) _ (put (logN pre) _ D.files), offF (offF D.fuse 1) 1⟩ : DiskM), 0) = _
    rw [put_put hO.srt, hT.fuse]
    rfl
  refine ⟨⟨D.room, put (logN pre) (whole (recsB (recF (baseOf im) (es ++ [p])))) D.files, none⟩, ?_, ⟨?_, ?_, ?_⟩, ⟨hT.room, rfl, ?_, ?_⟩, fun m hm => get_put_other hO.srt _ hm⟩
  · unfold ledAppend
    rw [if_neg (by simp [MM]), if_neg (app_first hi hf), MM_last, hL, if_neg (by simp)]
    rfl
  · show Sat.get _ (put _ _ _) = _
    rw [get_put_same hO.srt, if_neg (by simp)]
  · show Sat.get _ (put _ _ _) = _
    rw [get_put_other hO.srt _ (log_img pre).symm, h.img]
  · show Sat.get _ (put _ _ _) = _
    rw [get_put_other hO.srt _ (log_sh pre).symm, h.sh]
  · have h3 := used_app hO.srt (logN pre) (frameN (imgB (baseOf im + es.length + 1) p)) (recsB (recF (baseOf im) (es ++ [p]))).length
    rw [hcur, ← recs_app] at h3
    have := hT.used
    refine Nat.le_trans h3 ?_
    omega
  · exact Nat.le_trans (count_put _ _ _ hO.srt) (by have := hT.count; omega)

theorem rid_gone {n : Bs} (hO : Srt D.files) (hf : D.fuse = none) (hn : okN n = true) : D.rid [n] = (⟨D.room, del n D.files, none⟩, 0) := by
  cases hg : Sat.get n D.files with
  | none =>
    rw [rid_none hg, del_none hg, ← hf]
  | some f =>
    rw [rid_some (by rw [hf]; intro e; cases e) hn hg, hf]
    rfl

theorem wri_lies {n : Nat} (hp : 1 ≤ pre.length ∧ pre.length ≤ 20) (hO : D.OK) (hT : Tame D u c) (h : Lies pre D im es) (hl : baseOf im + es.length ≤ n) (hn : n ≤ 1099511627776) (hpl : p.length ≤ 524288) (hu : u + p.length + 30 ≤ 65536) (hc : c < 4096) :
    ∃ D2, ledWrite pre D (MM im es) (n : Int) p = ⟨D2, MM (some (n, p)) [], 0, 0⟩ ∧ Lies pre D2 (some (n, p)) [] ∧ Tame D2 (u + p.length + 30) (c + 1) ∧ ∀ m, m ≠ logN pre → m ≠ imgN pre → Sat.get m D2.files = Sat.get m D.files := by
  have hlen := imgB_len n p (by omega) (by omega)
  have hfl := frame_len (imgB n p)
  have hs := save_all (D := D) (n := imgN pre) (l := imgB n p) hO (fun j e => by rw [hT.fuse] at e; cases e) (by rw [img_len]; omega) (by rw [img_len]; omega) h.sh (by have := hT.used; rw [hT.room]; omega) (by have := hT.count; omega)
  rw [hT.fuse] at hs
  have hr := rid_gone (D := ⟨D.room, put (imgN pre) ⟨frameN (imgB n p), (frameN (imgB n p)).length⟩ D.files, offF none 3⟩) (n := logN pre) (srt_put hO.srt) rfl (log_ok hp.2)
  have hI : imgOn pre D n p = (⟨D.room, del (logN pre) (put (imgN pre) (whole (frameN (imgB n p))) D.files), none⟩, 0) := by
    unfold imgOn
    rw [hs, if_neg (by simp)]
    exact hr
  have hS := srt_put (n := imgN pre) (a := whole (frameN (imgB n p))) hO.srt
  refine ⟨⟨D.room, del (logN pre) (put (imgN pre) (whole (frameN (imgB n p))) D.files), none⟩, ?_, ⟨?_, ?_, ?_⟩, ⟨hT.room, rfl, ?_, ?_⟩, fun m hm1 hm2 => ?_⟩
  · unfold ledWrite
    rw [if_neg (by simp [MM]), if_neg (by rw [MM_last]; omega), if_neg (by omega), Int.toNat_natCast, hI, if_neg (by simp)]
    rfl
  · show Sat.get _ (del _ _) = _
    rw [get_del_same, if_pos rfl]
  · show Sat.get _ (del _ _) = _
    rw [get_del_other hS (log_img pre).symm, get_put_same hO.srt]
    rfl
  · show Sat.get _ (del _ _) = _
    rw [get_del_other hS (log_sh pre).symm, get_put_other hO.srt _ (img_sh pre).symm, h.sh]
  · refine Nat.le_trans (used_del _ _ hS) (Nat.le_trans (used_put _ _ _ hO.srt) ?_)
    have := hT.used
    show (frameN (imgB n p)).length + D.used ≤ _
    omega
  · exact Nat.le_trans (count_del _ _ hS) (Nat.le_trans (count_put _ _ _ hO.srt) (by have := hT.count; omega))
  · show Sat.get _ (del _ _) = _
    rw [get_del_other hS hm1, get_put_other hO.srt _ hm2]

theorem drop_lies (hp : pre.length ≤ 20) (hO : D.OK) (hT : Tame D u c) (h : Lies pre D none es) :
    ∃ D2, ledDrop pre D (MM none es) = ⟨D2, (MM none es).die, 0, 0⟩ ∧ Lies pre D2 none [] ∧ Tame D2 u c ∧ ∀ m, m ≠ logN pre → Sat.get m D2.files = Sat.get m D.files := by
  have hr := rid_gone (D := D) hO.srt hT.fuse (log_ok hp)
  have hS := srt_del (n := logN pre) hO.srt
  have hi : Sat.get (imgN pre) (del (logN pre) D.files) = none := by rw [get_del_other hO.srt (log_img pre).symm, h.img]; rfl
  have hr1 : DiskM.rid1 D (logN pre) = (⟨D.room, del (logN pre) D.files, none⟩, 0) := by
    have : (if (DiskM.rid1 D (logN pre)).2 = 0 then ((DiskM.rid1 D (logN pre)).1, 0) else DiskM.rid1 D (logN pre)) = (⟨D.room, del (logN pre) D.files, none⟩, 0) := hr
    by_cases hz : (DiskM.rid1 D (logN pre)).2 = 0
    · rw [if_pos hz] at this
      exact Prod.ext (Prod.mk.inj this).1 hz
    · rwa [if_neg hz] at this
  have hR : D.rid [logN pre, imgN pre] = (⟨D.room, del (logN pre) D.files, none⟩, 0) := by
    show (if (DiskM.rid1 D (logN pre)).2 = 0 then DiskM.rid (DiskM.rid1 D (logN pre)).1 [imgN pre] else _) = _
    rw [hr1, if_pos rfl]
    exact rid_none hi
  refine ⟨⟨D.room, del (logN pre) D.files, none⟩, ?_, ⟨?_, ?_, ?_⟩, ⟨hT.room, rfl, Nat.le_trans (used_del _ _ hO.srt) hT.used, Nat.le_trans (count_del _ _ hO.srt) hT.count⟩, fun m hm => get_del_other hO.srt hm⟩
  · unfold ledDrop
    rw [if_neg (by simp [MM]), hR]
  · show Sat.get _ (del _ _) = _
    rw [get_del_same, if_pos rfl]
  · exact hi
  · show Sat.get _ (del _ _) = _
    rw [get_del_other hO.srt (log_sh pre).symm, h.sh]
end

theorem Lies.other {pre : Bs} {D D2 : DiskM} {im : Option (Nat × Bs)} {es : List Bs} (h : Lies pre D im es) (hk : ∀ m, m = logN pre ∨ m = imgN pre ∨ m = shadowN (imgN pre) → Sat.get m D2.files = Sat.get m D.files) : Lies pre D2 im es :=
  ⟨by rw [hk _ (.inl rfl)]; exact h.log, by rw [hk _ (.inr (.inl rfl))]; exact h.img, by rw [hk _ (.inr (.inr rfl))]; exact h.sh⟩
theorem lies_fresh (pre : Bs) : Lies pre (DiskM.fresh 65536) none [] := ⟨rfl, rfl, rfl⟩
theorem tame_fresh : Tame (DiskM.fresh 65536) 0 0 := ⟨rfl, rfl, Nat.le_refl _, Nat.le_refl _⟩
end Go.Proofs.Yteohbjkjfnflgaa
