/- The document's disk: Append onto a file that is not there. (Its walk is printed by mkr2.py.) The document's disk: Append, whole. The document's disk: a file goes. (Its walk is printed by mkr3.py.) The document's disk: Remove. The document's disk: Rename. The document's disk: Crash. The document's disk: Copy. (Its walk is printed by mkr5.py.) The program's disk and the document's, side by side. The document's keep (satrapyref4): has, Load. The document's disk through several steps: what is set apart (F) stays as it was. -/
import Derived.Test.YtogdfkilhpkloaaGreatDoorAA
import Derived.Test.YtogdfkilhpkloaaGreatDoorAE
import Derived.Test.YtogdfkilhpkloaaGreatDoorAJ
namespace Go.Sat
open Go Go.RowKit
theorem own_emptyS (w : World) (e : TypeId) (size : Nat) : OwnR (w.alloc (.cells #[] e)) e size (.slice (some ⟨w.heap.size, 0, none⟩) 0 0) 0 [] :=
  ⟨by simp, .inr ⟨_, 0, #[], rfl, new_block w _, Nat.le_refl _, Nat.zero_le _, by simp, by simp⟩⟩
theorem holds_lit (w : World) (cs : Array Value) (xs : List Value) (size n c : Nat) (hl : cs.toList = xs) (hx : xs.length = n * size) (e : TypeId) (fr : Nat × Nat) : Holds (w.alloc (.cells cs e fr)) size (.slice (some ⟨w.heap.size, 0, none⟩) n c) n xs := by
  refine ⟨hx, some ⟨w.heap.size, 0, none⟩, c, rfl, fun e => (by cases e), fun a ha i u hu => ?_⟩
  cases ha
  rw [add_zero]
  refine cell_of (new_block w _) ?_
  rw [← hl] at hu
  simpa using hu
end Go.Sat
namespace Go.Proofs.YtogdfkilhpkloaaGreatDoor
open Go.RowKit Go.Sat Go.Maps

theorem has_void {w w' : World} {v : Value} {l : Bs} (h : HasB w v l) (hl : l = []) : HasB w' v l := by
  subst hl
  obtain ⟨hl, p, c, e, h0, -⟩ := h
  exact ⟨hl, p, c, e, h0, fun a ha i u hu => by simp [bytesV] at hu⟩

section
variable {w : World} {r : Nat} {v : Value} {L : List RFile} {own : Nat → Prop} {D : DiskM}

def nilF (n : Bs) : RFile := ⟨n, .slice none 0 0, ⟨[], 0⟩⟩

theorem new_cells (L : List RFile) (i : Nat) (n : Bs) : (L.take i ++ nilF n :: L.drop i).flatMap RFile.cells = ((L.flatMap RFile.cells).take (i * 3) ++ (nilF n).cells) ++ (L.flatMap RFile.cells).drop (i * 3) := by
  rw [List.flatMap_append, List.flatMap_cons, cells_take, cells_drop, List.append_assoc]

theorem RefIn.putn (h : RefIn w r v L own D) {n : Bs} (hg : Sat.get n D.files = none) (v' : Value) (f : FileM) : Sat.put n f D.files = ((L.take (spotN n (L.map RFile.n)) ++ nilF n :: L.drop (spotN n (L.map RFile.n))).set (spotN n (L.map RFile.n)) ⟨n, v', f⟩).map RFile.key := by
  have hle : spotN n (L.map RFile.n) ≤ L.length := by have := spotN_le n (L.map RFile.n); rwa [List.length_map] at this
  have h1 : Sat.put n f D.files = ins (n, f) D.files := by unfold Sat.put; rw [del_none hg]
  rw [h1, ins_at n f h.ok.srt hg, ← h.names, h.files]
  generalize spotN n (L.map RFile.n) = i at *
  rw [List.set_append_right _ _ (by rw [List.length_take]; omega), List.length_take, Nat.min_eq_left hle, Nat.sub_self, List.set_cons_zero, List.map_append, List.map_cons, List.map_take, List.map_drop]
  rfl

set_option maxRecDepth 100000 in
set_option maxHeartbeats 8000000 in
/-- The file is not there. -/
theorem rappend_new (h : RefIn w r v L own D) (s : ByteArray) (hs : s.size ≤ 9223372036854775807) {pb : Option Addr} {m cb : Nat} {l : Bs} (hl : HasB w (.slice pb m cb) l) (hno : l ≠ [] → ∀ k, (Value.slice pb m cb).ownBlock = some k → ¬ own k) (hm : D.may [nm s] = 0) (hg : Sat.get (nm s) D.files = none) (hroom : D.used + m ≤ D.room) (hcnt : D.files.length < 4096)
    (hok : DiskM.OK { D with files := put (nm s) ⟨[] ++ l, 0⟩ D.files }) :
    Calls Tryz.prog 266 #[.pointer (some ⟨r, 0, none⟩), .string s, .slice pb m cb] w (RStep w r own (DiskM.done { D with files := put (nm s) ⟨[] ++ l, 0⟩ D.files }, 0)) := by
  have hml : m = l.length := (bytes_in hl).1
  have h1 : RefIn (w.alloc (.cells #[.string s] 9)) r v L own D := h.below ((Below.refl _ _).alloc (Nat.le_refl _) _)
  have hmay := rmay_calls h1 (some ⟨w.heap.size, 0, none⟩) [s] 1 (strs_one w s) (by simp) (by simpa using hs)
  simp only [List.map_cons, List.map_nil] at hmay
  have hsp := spot_calls h1 s
  rw [h.is, hg] at hsp
  rw [hm] at hmay
  have HU := Lib.hid (fun W hb => rused_calls (h.below (w' := W) hb))
  have hub : D.used ≤ 1073741824 := Nat.le_trans h.ok.used h.ok.room
  have hrb := h.ok.room
  have hput := fun v' => h.putn hg v' ⟨[] ++ l, 0⟩
  have hfz := may_fuse hm
  rw [← h.len] at hcnt
  have hle : spotN (nm s) (L.map RFile.n) ≤ L.length := by have := spotN_le (nm s) (L.map RFile.n); rwa [List.length_map] at this
  obtain ⟨pv, cv, hgv⟩ := h.slice
  have hNc : L.length ≤ cv := by
    rcases h.at with h0 | ⟨g, c0, e, hc, -⟩
    · rw [h0]; exact Nat.zero_le _
    · rw [hgv] at e; cases e; exact hc
  generalize spotN (nm s) (L.map RFile.n) = i at *
  have Hcells := Lib.hid (show ∀ W, Below w.heap.size w W → W.cell? ⟨r, 0, none⟩ = some (.int .i64 (D.room : Int)) ∧ W.cell? ⟨r, 1, none⟩ = some (.slice pv L.length cv) from fun W hb => ⟨(h.below hb).c0, (h.below hb).c1.trans (by rw [hgv])⟩)
  have Hfr := Lib.hid (show ∀ W, Below w.heap.size w W → W.frozen? ⟨r, 1, none⟩ = false from fun W hb => frozen_of (h.below hb).cells 1)
  have Hrow := Lib.hid (show ∀ W, Below w.heap.size w W → OwnR W 423 3 (.slice pv L.length cv) L.length (L.flatMap RFile.cells) from fun W hb => by rw [← hgv]; exact (h.below hb).row)
  have Hone := Lib.hid (cells_one h.core.one)
  have Hl := Lib.hid hl
  have Hml := Lib.hid hml
  have Hno := Lib.hid hno
  have Hput := Lib.hid hput
  have Hok := Lib.hid hok
  have Hfz := Lib.hid hfz
  have H := Lib.hid h
  obtain ⟨i0, hi, hz0, hz1, hz2⟩ := info_parts (show (Tryz.prog.info? 5).map (fun i => (i.zero, i.size, i.bytes)) = some (some (.int .u8 0), 1, 1) by kernel_rfl)
  obtain ⟨iF, hFi, hF0, hF1, hF2⟩ := info_parts (show (Tryz.prog.info? 423).map (fun i => (i.zero, i.size, i.bytes)) = some (some (.agg #[.string ⟨#[]⟩, .slice none 0 0, .int .i64 0]), 3, 48) by kernel_rfl)
  have hs1 : ∀ W, (Instr.slice 305 (.slice pv L.length cv) none (some (.int .i64 (i : Int))) none).run Tryz.prog W = .ok (.slice pv i cv) W := fun W => run_upto W Tryz.underlying305 hFi pv _ cv i (by omega)
  have hs2 : ∀ W, (Instr.slice 305 (.slice pv L.length cv) (some (.int .i64 (i : Int))) none none).run Tryz.prog W = .ok (.slice (if cv - i = 0 then pv else pv.map fun x => x.add (i * 3)) (L.length - i) (cv - i)) W := fun W => by
    have := run_from_any (P := Tryz.prog) W Tryz.underlying305 hFi pv L.length cv i hle hNc
    rw [hF1] at this
    exact this
  have Hfrom := Lib.hid (show ∀ W, Below w.heap.size w W → Holds W 3 (.slice (if cv - i = 0 then pv else pv.map fun x => x.add (i * 3)) (L.length - i) (cv - i)) (L.length - i) ((L.flatMap RFile.cells).drop (i * 3)) from fun W hb => OwnR.cut_from (Hrow.out W hb) hle)
  generalize hpF : (if cv - i = 0 then pv else pv.map fun x => x.add (i * 3)) = pF at *
  clear h h1 hm hg hok hput hml hl hfz hno hpF
  subst hgv
  have hd1 : decide ((D.room : Int) < (D.used : Int) + (m : Int)) = false := by simp; omega
  have hd2 : decide (D.room < D.used + m) = false := by simp; omega
  generalize hU : D.used = U at *
  generalize hN : L.length = N at *
  have HN := Lib.hid hN
  clear hN hU
  have Hmay := Lib.hid hmay
  have Hsp := Lib.hid hsp
  clear hmay hsp
  go_enter Tryz.func266, Tryz.ntmps266
  go_wp2_with fail
  refine Hmay.out.mono ?_
  rintro e w2 ⟨rfl, rfl⟩
  go_wp2_with fail
  refine Hsp.out.mono ?_
  rintro e w3 ⟨rfl, q, rfl⟩
  have HbW := Lib.hid (below_names w (.cells #[.string s] 9) q)
  have Hused := Lib.hid (fun n => HU.out _ (HbW.out.trans (show Below _ _ (((w.alloc (.cells #[.string s] 9)).drewN q).drewN n) from ⟨rfl, rfl, rfl, Nat.le_refl _, fun _ _ => rfl⟩)))
  obtain ⟨hc0, hc1⟩ := Hcells.out _ HbW.out
  generalize (w.alloc (.cells #[.string s] 9)).drewN q = W at *
  go_wp2_with fail
  go_quiet ((go_at_call 337; refine Calls.quiet_of_same (Hused.out _)))
  clear hc0 hc1
  have X0 := Lib.hid (show Below w.heap.size w (W.drewN nq) from HbW.out.trans ⟨rfl, rfl, rfl, Nat.le_refl _, fun _ _ => rfl⟩)
  generalize W.drewN nq = Wq at *
  have X1 := Lib.hid (X0.out.alloc X0.out.size (.cells #[] 423))
  have hc1a := (Hcells.out _ X1.out).2
  have Hup := Lib.hid (show Holds (Wq.alloc (.cells #[] 423)) 3 (.slice pv i cv) i ((L.flatMap RFile.cells).take (i * 3)) from Holds.upto (OwnR.holds (Hrow.out _ X1.out)) hle cv)
  go_wp2_with (first | (at_builtin; refine wpList_app (Wq.alloc (.cells #[] 423)) rfl (.tmp 48) (.tmp 54) 305 rfl 423 iF _ 3 48 Tryz.underlying305 hFi hF0 hF1 hF2 rfl (by decide) (.slice (some ⟨Wq.heap.size, 0, none⟩) 0 0) 0 [] rfl (own_emptyS Wq _ 3) (.slice pv i cv) i _ rfl Hup.out (fun u hu => Hone.out u (List.mem_of_mem_take hu)) (by unfold maxLen; omega) (by omega) ?_; intro v12 w12 hown12 hgrow12 hloc12; rw [Nat.zero_add, List.nil_append] at hown12; have hX := X1.out.grown hgrow12 X1.out.size (fun j e => by have := X0.out.size; simp [Value.ownBlock] at e; omega); have hnew := own_ge (B := w.heap.size) hloc12 (fun k hk => by have := X0.out.size; simp [Value.ownBlock] at hk; omega) X1.out.size; obtain ⟨p12, c12, rfl⟩ := OwnR.shape hown12; have X12 := Lib.hid (And.intro hX (And.intro hown12 hnew)); clear hown12 hgrow12 hloc12 hX hnew hc1a) | (at_builtin; refine wpList_app (w12.alloc (.cells #[.string s, .slice none 0 0, .int .i64 0] 423)) rfl (.tmp 56) (.tmp 59) 305 rfl 423 iF _ 3 48 Tryz.underlying305 hFi hF0 hF1 hF2 rfl (by decide) (.slice p12 i c12) i _ rfl (OwnR.keep X12.out.2.1 fun j hj => alloc_was w12 _ (OwnR.lt X12.out.2.1 hj)) (.slice (some ⟨w12.heap.size, 0, none⟩) 1 1) 1 [.string s, .slice none 0 0, .int .i64 0] rfl (holds_lit w12 #[.string s, .slice none 0 0, .int .i64 0] _ 3 1 1 rfl rfl _ _) (fun u hu => by simp at hu; rcases hu with rfl | rfl | rfl <;> rfl) (by unfold maxLen; omega) (by omega) ?_; intro v13 w13 hown13 hgrow13 hloc13; have hXa := X12.out.1.alloc X12.out.1.size (.cells #[.string s, .slice none 0 0, .int .i64 0] 423); have hX := hXa.grown hgrow13 hXa.size (fun j hj => X12.out.2.2 j hj); have hnew := own_ge (B := w.heap.size) hloc13 X12.out.2.2 hXa.size; obtain ⟨p13, c13, rfl⟩ := OwnR.shape hown13; have X13 := Lib.hid (And.intro hX (And.intro hown13 hnew)); have hc1b := (Hcells.out _ X13.out.1).2; clear hown13 hgrow13 hloc13 hX hnew hXa) | (at_builtin; refine wpList_app w13 rfl (.tmp 62) (.tmp 68) 305 rfl 423 iF _ 3 48 Tryz.underlying305 hFi hF0 hF1 hF2 rfl (by decide) (.slice p13 (i + 1) c13) (i + 1) _ rfl X13.out.2.1 (.slice pF (N - i) (cv - i)) (N - i) _ rfl (Hfrom.out w13 X13.out.1) (fun u hu => Hone.out u (List.mem_of_mem_drop hu)) (by unfold maxLen; omega) (by omega) ?_; intro v14 w14 hown14 hgrow14 hloc14; have hX := X13.out.1.grown hgrow14 X13.out.1.size (fun j hj => X13.out.2.2 j hj); have hnew := own_ge (B := w.heap.size) hloc14 X13.out.2.2 X13.out.1.size; obtain ⟨p14, c14, rfl⟩ := OwnR.shape hown14; have X14 := Lib.hid (And.intro hX (And.intro hown14 hnew)); have hc1c := (Hcells.out _ X14.out.1).2; have hfrc := Hfr.out _ X14.out.1; clear hown14 hgrow14 hloc14 hX hnew hc1b))
  clear hc1c hfrc
  have hrow := X14.out.2.1
  have hcore0 := (H.out.below X14.out.1).core
  have es : Value.string s = encStr (nm s) := by rw [enc_str]; simp [nm]
  have hlen' : (L.take i ++ nilF (nm s) :: L.drop i).length = i + 1 + (N - i) := by
    rw [List.length_append, List.length_take, List.length_cons, List.length_drop, HN.out]
    omega
  have hrow' : OwnR w14 423 3 (.slice p14 (i + 1 + (N - i)) c14) (L.take i ++ nilF (nm s) :: L.drop i).length ((L.take i ++ nilF (nm s) :: L.drop i).flatMap RFile.cells) := by
    rw [new_cells, hlen']
    show OwnR w14 _ 3 _ _ (((L.flatMap RFile.cells).take (i * 3) ++ [encStr (nm s), .slice none 0 0, .int .i64 0]) ++ _)
    rw [← es]
    exact hrow
  have hfresh : ∀ k, (Value.slice p14 (i + 1 + (N - i)) c14).ownBlock = some k → ¬ own k := fun k hk ho => by
    have h1 := X14.out.2.2 k hk
    have h2 := H.out.olt k ho
    omega
  have hcore := hcore0.relist hrow' (fun x hx => by
    rcases List.mem_append.1 hx with hx | hx
    · exact .inl (List.mem_of_mem_take hx)
    · rcases List.mem_cons.1 hx with rfl | hx
      · exact .inr ⟨OwnR.nil _ _ _, fun k hk => by cases hk⟩
      · exact .inl (List.mem_of_mem_drop hx)) hfresh
  have hld : HasB (w14.setCell ⟨r, 1, none⟩ (.slice p14 (i + 1 + (N - i)) c14)) (.slice pb m cb) l := by
    by_cases hl0 : l = []
    · exact has_void Hl.out hl0
    · exact Hl.out.same fun k hk => by
        have h1 := Hl.out.lt hl0 hk
        have h2 : k ≠ r := fun e => Hno.out hl0 k hk (by rw [e]; exact H.out.or)
        exact (set_other _ h2).trans (X14.out.1.block k h1)
  have hch : Chg own w (w14.setCell ⟨r, 1, none⟩ (.slice p14 (i + 1 + (N - i)) c14)) := chg_below X14.out.1 (chg_own H.out.or)
  have hx1 : ∀ k, (own k ∨ (Value.slice p14 (i + 1 + (N - i)) c14).ownBlock = some k) → own k ∨ w.heap.size ≤ k := fun k hk => hk.imp id (X14.out.2.2 k)
  have hxi : (L.take i ++ nilF (nm s) :: L.drop i)[i]? = some (nilF (nm s)) := by
    rw [List.getElem?_append_right (by rw [List.length_take]; omega), List.length_take, HN.out, Nat.min_eq_left hle, Nat.sub_self]
    rfl
  obtain ⟨g, rfl⟩ : ∃ g, p14 = some ⟨g, 0, none⟩ := by
    rcases hrow.2 with ⟨e, hn⟩ | ⟨g', cap, cur, e, _⟩
    · omega
    · cases e
      exact ⟨g', rfl⟩
  have Hgr := Lib.hid (show r ≠ g from (hcore.ov g rfl).2.symm)
  have Hcore := Lib.hid hcore
  have Hcells2 := Lib.hid (show ∀ W, Below (w14.setCell ⟨r, 1, none⟩ (.slice (some ⟨g, 0, none⟩) (i + 1 + (N - i)) c14)).heap.size (w14.setCell ⟨r, 1, none⟩ (.slice (some ⟨g, 0, none⟩) (i + 1 + (N - i)) c14)) W → W.cell? ⟨r, 1, none⟩ = some (.slice (some ⟨g, 0, none⟩) (i + 1 + (N - i)) c14) ∧ W.cell? ⟨g, i * 3 + 1, none⟩ = some (.slice none 0 0) ∧ W.frozen? ⟨g, i * 3 + 1, none⟩ = false from fun W hb => by
    have hW := hcore.keep (w' := W) hb.size fun k hk => hb.block k (hcore.olt k hk)
    exact ⟨hW.c1, (hW.at rfl hxi).2.1, hW.free rfl _⟩)
  have Hxd := Lib.hid (fun (W : World) (_ : Below (w14.setCell ⟨r, 1, none⟩ (.slice (some ⟨g, 0, none⟩) (i + 1 + (N - i)) c14)).heap.size (w14.setCell ⟨r, 1, none⟩ (.slice (some ⟨g, 0, none⟩) (i + 1 + (N - i)) c14)) W) => (show Holds W 1 (.slice none 0 0) 0 (bytesV []) from ⟨rfl, none, 0, rfl, fun _ => rfl, fun a ha => by cases ha⟩))
  have Hld := Lib.hid (fun (W : World) (hb : Below (w14.setCell ⟨r, 1, none⟩ (.slice (some ⟨g, 0, none⟩) (i + 1 + (N - i)) c14)).heap.size (w14.setCell ⟨r, 1, none⟩ (.slice (some ⟨g, 0, none⟩) (i + 1 + (N - i)) c14)) W) => (show Holds W 1 (.slice pb m cb) m (bytesV l) from by
    have hW := hld.below hb
    unfold HasB at hW
    rw [← Hml.out] at hW
    exact hW))
  have Hend := Lib.hid (fun (w7 : World) (v7 : Value) (hb : Below (w14.setCell ⟨r, 1, none⟩ (.slice (some ⟨g, 0, none⟩) (i + 1 + (N - i)) c14)).heap.size (w14.setCell ⟨r, 1, none⟩ (.slice (some ⟨g, 0, none⟩) (i + 1 + (N - i)) c14)) w7) (h7 : OwnB w7 5 v7 ([] ++ l)) (hn7 : ∀ k, v7.ownBlock = some k → (w14.setCell ⟨r, 1, none⟩ (.slice (some ⟨g, 0, none⟩) (i + 1 + (N - i)) c14)).heap.size ≤ k) => rapp_end (D := D) hcore rfl hxi hb h7 hn7 (Hput.out v7) Hok.out hch hx1 Hfz.out)
  have Hlen := Lib.hid (show ([] ++ l : Bs).length = m from by rw [List.nil_append, Hml.out])
  clear hrow hcore0 es hlen' hrow' hfresh hcore hld hch hx1 hxi Hcore X0 X1 X12 X13 X14 Hup
  generalize w14.setCell ⟨r, 1, none⟩ (.slice (some ⟨g, 0, none⟩) (i + 1 + (N - i)) c14) = Ws at *
  generalize hM : i + 1 + (N - i) = M at *
  have hiM : i < M := by omega
  clear hM
  obtain ⟨hc1d, -, -⟩ := Hcells2.out _ (Below.refl _ _)
  go_wp2_with fail
  clear hc1d
  have X0 := Lib.hid (show Below Ws.heap.size Ws Ws.drew from ⟨rfl, rfl, rfl, Nat.le_refl _, fun _ _ => rfl⟩)
  have hS := (Hcells2.out _ X0.out).1
  refine ord_start (fun W' : World => W'.cell? ⟨r, 1, none⟩ = some (.slice (some ⟨g, 0, none⟩) M c14)) (n := 20) (by kernel_rfl) rfl hS (fun hHeld => ?_)
  clear hS
  generalize Ws.drew = Wd at *
  refine Pl [0,1,2,3,4,6,7,8,9,10,11,12,15] ?_
  iterate 13 (refine Pc rfl ?_;simp only [Act.put, uA, uB, uC])
  refine Pn ?_
  refine ord_two 5 13 rfl rfl (by kernel_rfl) (by rfl) (by rfl) (fun K hK => ?_) (fun K hK => ?_)
  · go_wp2_with fail
    have X1 := Lib.hid (X0.out.alloc X0.out.size (.cells #[] 5))
    refine hK.out _ _ ((Hcells2.out _ X1.out).1) (fun hHeld => ?_)
    clear hK
    try simp only [Act.put, List.setIfInBounds_toArray, List.set_cons_zero, List.set_cons_succ]
    refine ord_one 13 rfl (by kernel_rfl) (by rfl) (fun K hK => ?_)
    have hc2 := (Hcells2.out _ X1.out).2.1
    go_wp2_with fail
    clear hc2
    refine hK.out _ _ ((Hcells2.out _ X1.out).1) (fun hHeld => ?_)
    clear hK
    try simp only [Act.put, List.setIfInBounds_toArray, List.set_cons_zero, List.set_cons_succ]
    refine ord_one 14 rfl (by kernel_rfl) (by rfl) (fun K hK => ?_)
    have hown0 := own_empty Wd 5
    have hxd := Hxd.out _ X1.out
    refine wp_app (.tmp 77) (.tmp 85) 39 (by rfl) 5 i0 (.int .u8 0) 1 1 Tryz.underlying39 hi hz0 hz1 hz2 rfl (by decide) (.slice (some ⟨Wd.heap.size, 0, none⟩) 0 0) 0 [] (by rfl) hown0 (.slice none 0 0) 0 _ (by rfl) hxd (bytesV_one _) (by unfold maxLen; omega) (by omega) ?_
    clear hown0 hxd
    intro v6 w6 hown6 hgrow6 hloc6
    have X6 := Lib.hid (X1.out.grown hgrow6 X1.out.size (fun j e => by have := X0.out.size; simp [Value.ownBlock] at e; omega))
    have hnew6 := own_ge (B := Ws.heap.size) hloc6 (fun k hk => by have := X0.out.size; simp [Value.ownBlock] at hk; omega) X1.out.size
    rw [Nat.zero_add, List.nil_append] at hown6
    obtain ⟨p6, c6, rfl⟩ := OwnR.shape hown6
    have Hown6 := Lib.hid hown6
    have Hnew6 := Lib.hid hnew6
    clear hgrow6 hloc6 hown6 hnew6
    refine hK.out _ _ ((Hcells2.out _ X6.out).1) (fun hHeld => ?_)
    clear hK
    try simp only [Act.put, List.setIfInBounds_toArray, List.set_cons_zero, List.set_cons_succ]
    refine ord_one 16 rfl (by kernel_rfl) (by rfl) (fun K hK => ?_)
    have hld := Hld.out _ X6.out
    refine wp_app (.tmp 86) (.tmp 87) 39 (by rfl) 5 i0 (.int .u8 0) 1 1 Tryz.underlying39 hi hz0 hz1 hz2 rfl (by decide) (.slice p6 0 c6) 0 _ (by rfl) Hown6.out (.slice pb m cb) m _ (by rfl) hld (bytesV_one _) (by unfold maxLen; omega) (by omega) ?_
    clear hld
    intro v7 w7 hown7 hgrow7 hloc7
    have X7 := Lib.hid (X6.out.grown hgrow7 X6.out.size Hnew6.out)
    have hnew7 := own_ge (B := Ws.heap.size) hloc7 Hnew6.out X6.out.size
    rw [Nat.zero_add] at hown7
    obtain ⟨p7, c7, rfl⟩ := OwnR.shape hown7
    rw [← bytesV_app] at hown7
    have Hend7 := Lib.hid (Hend.out w7 (.slice p7 m c7) X7.out (by unfold OwnB; rw [Hlen.out]; exact hown7) hnew7)
    clear hgrow7 hloc7 hown7 hnew7
    refine hK.out _ _ ((Hcells2.out _ X7.out).1) (fun hHeld => ?_)
    clear hK
    try simp only [Act.put, List.setIfInBounds_toArray, List.set_cons_zero, List.set_cons_succ]
    refine Pl [17,18] ?_
    iterate 2 (refine Pc rfl ?_;simp only [Act.put, uA, uB, uC])
    refine Pn ?_
    refine ord_one 19 rfl (by kernel_rfl) (by rfl) (fun K hK => ?_)
    obtain ⟨hc1, hc2, hfz1⟩ := Hcells2.out _ X7.out
    go_wp2_with fail
    have hcs : (w7.setCell ⟨g, i * 3 + 1, none⟩ (.slice p7 m c7)).cell? ⟨r, 1, none⟩ = some (.slice (some ⟨g, 0, none⟩) M c14) := (World.cell?_of_block (set_other _ Hgr.out)).trans hc1
    clear hc1 hc2 hfz1
    refine hK.out _ _ (hcs) (fun hHeld => ?_)
    clear hK
    try simp only [Act.put, List.setIfInBounds_toArray, List.set_cons_zero, List.set_cons_succ]
    refine wpAnyH_done (by kernel_rfl) ?_ _
    clear hHeld
    go_wp2_with fail
    refine Hend7.out.mono ?_
    intro e w8 hE
    have HE := Lib.hid hE
    obtain ⟨rfl, -⟩ := hE
    go_wp2_with fail
    go_ret
    exact HE.out
  · have hc2 := (Hcells2.out _ X0.out).2.1
    go_wp2_with fail
    clear hc2
    refine hK.out _ _ ((Hcells2.out _ X0.out).1) (fun hHeld => ?_)
    clear hK
    try simp only [Act.put, List.setIfInBounds_toArray, List.set_cons_zero, List.set_cons_succ]
    refine ord_one 5 rfl (by kernel_rfl) (by rfl) (fun K hK => ?_)
    go_wp2_with fail
    have X1 := Lib.hid (X0.out.alloc X0.out.size (.cells #[] 5))
    refine hK.out _ _ ((Hcells2.out _ X1.out).1) (fun hHeld => ?_)
    clear hK
    try simp only [Act.put, List.setIfInBounds_toArray, List.set_cons_zero, List.set_cons_succ]
    refine ord_one 14 rfl (by kernel_rfl) (by rfl) (fun K hK => ?_)
    have hown0 := own_empty Wd 5
    have hxd := Hxd.out _ X1.out
    refine wp_app (.tmp 77) (.tmp 85) 39 (by rfl) 5 i0 (.int .u8 0) 1 1 Tryz.underlying39 hi hz0 hz1 hz2 rfl (by decide) (.slice (some ⟨Wd.heap.size, 0, none⟩) 0 0) 0 [] (by rfl) hown0 (.slice none 0 0) 0 _ (by rfl) hxd (bytesV_one _) (by unfold maxLen; omega) (by omega) ?_
    clear hown0 hxd
    intro v6 w6 hown6 hgrow6 hloc6
    have X6 := Lib.hid (X1.out.grown hgrow6 X1.out.size (fun j e => by have := X0.out.size; simp [Value.ownBlock] at e; omega))
    have hnew6 := own_ge (B := Ws.heap.size) hloc6 (fun k hk => by have := X0.out.size; simp [Value.ownBlock] at hk; omega) X1.out.size
    rw [Nat.zero_add, List.nil_append] at hown6
    obtain ⟨p6, c6, rfl⟩ := OwnR.shape hown6
    have Hown6 := Lib.hid hown6
    have Hnew6 := Lib.hid hnew6
    clear hgrow6 hloc6 hown6 hnew6
    refine hK.out _ _ ((Hcells2.out _ X6.out).1) (fun hHeld => ?_)
    clear hK
    try simp only [Act.put, List.setIfInBounds_toArray, List.set_cons_zero, List.set_cons_succ]
    refine ord_one 16 rfl (by kernel_rfl) (by rfl) (fun K hK => ?_)
    have hld := Hld.out _ X6.out
    refine wp_app (.tmp 86) (.tmp 87) 39 (by rfl) 5 i0 (.int .u8 0) 1 1 Tryz.underlying39 hi hz0 hz1 hz2 rfl (by decide) (.slice p6 0 c6) 0 _ (by rfl) Hown6.out (.slice pb m cb) m _ (by rfl) hld (bytesV_one _) (by unfold maxLen; omega) (by omega) ?_
    clear hld
    intro v7 w7 hown7 hgrow7 hloc7
    have X7 := Lib.hid (X6.out.grown hgrow7 X6.out.size Hnew6.out)
    have hnew7 := own_ge (B := Ws.heap.size) hloc7 Hnew6.out X6.out.size
    rw [Nat.zero_add] at hown7
    obtain ⟨p7, c7, rfl⟩ := OwnR.shape hown7
    rw [← bytesV_app] at hown7
    have Hend7 := Lib.hid (Hend.out w7 (.slice p7 m c7) X7.out (by unfold OwnB; rw [Hlen.out]; exact hown7) hnew7)
    clear hgrow7 hloc7 hown7 hnew7
    refine hK.out _ _ ((Hcells2.out _ X7.out).1) (fun hHeld => ?_)
    clear hK
    try simp only [Act.put, List.setIfInBounds_toArray, List.set_cons_zero, List.set_cons_succ]
    refine Pl [17,18] ?_
    iterate 2 (refine Pc rfl ?_;simp only [Act.put, uA, uB, uC])
    refine Pn ?_
    refine ord_one 19 rfl (by kernel_rfl) (by rfl) (fun K hK => ?_)
    obtain ⟨hc1, hc2, hfz1⟩ := Hcells2.out _ X7.out
    go_wp2_with fail
    have hcs : (w7.setCell ⟨g, i * 3 + 1, none⟩ (.slice p7 m c7)).cell? ⟨r, 1, none⟩ = some (.slice (some ⟨g, 0, none⟩) M c14) := (World.cell?_of_block (set_other _ Hgr.out)).trans hc1
    clear hc1 hc2 hfz1
    refine hK.out _ _ (hcs) (fun hHeld => ?_)
    clear hK
    try simp only [Act.put, List.setIfInBounds_toArray, List.set_cons_zero, List.set_cons_succ]
    refine wpAnyH_done (by kernel_rfl) ?_ _
    clear hHeld
    go_wp2_with fail
    refine Hend7.out.mono ?_
    intro e w8 hE
    have HE := Lib.hid hE
    obtain ⟨rfl, -⟩ := hE
    go_wp2_with fail
    go_ret
    exact HE.out
end
end Go.Proofs.YtogdfkilhpkloaaGreatDoor

namespace Go.Proofs.YtogdfkilhpkloaaGreatDoor
open Go.RowKit Go.Sat Go.Maps

section
variable {w : World} {r : Nat} {v : Value} {L : List RFile} {own : Nat → Prop} {D : DiskM}

set_option maxRecDepth 100000 in
theorem rappend_calls (h : RefIn w r v L own D) (s : ByteArray) (hs : s.size ≤ 9223372036854775807) {pb : Option Addr} {m cb : Nat} {l : Bs} (hl : HasB w (.slice pb m cb) l) (hlm : l.length ≤ 140737488355328) (hno : l ≠ [] → ∀ k, (Value.slice pb m cb).ownBlock = some k → ¬ own k) :
    Calls Tryz.prog 266 #[.pointer (some ⟨r, 0, none⟩), .string s, .slice pb m cb] w (RStep w r own (D.append (nm s) l)) := by
  have hml : m = l.length := (bytes_in hl).1
  by_cases hm : D.may [nm s] = 0
  · by_cases hf : D.full (nm s) l = true
    · have hR : D.append (nm s) l = (D, 6) := by unfold DiskM.append; rw [if_neg (by rw [hm]; simp), if_pos hf]
      rw [hR]
      refine rappend_full h s hs (by omega) hm ?_
      unfold DiskM.full at hf
      rw [Bool.or_eq_true, Bool.and_eq_true, decide_eq_true_eq, decide_eq_true_eq, Option.isNone_iff_eq_none] at hf
      rw [hml]
      exact hf
    · have hf0 : D.full (nm s) l = false := by simpa using hf
      have hok := ok_append h.ok hm hf0
      have hR : D.append (nm s) l = (DiskM.done { D with files := put (nm s) ⟨(D.cur (nm s)).data ++ l, (D.cur (nm s)).lasts⟩ D.files }, 0) := by unfold DiskM.append; rw [if_neg (by rw [hm]; simp), if_neg hf]
      rw [hR]
      unfold DiskM.full at hf
      rw [Bool.or_eq_true, Bool.and_eq_true, decide_eq_true_eq, decide_eq_true_eq, Option.isNone_iff_eq_none, not_or] at hf
      have hroom : D.used + m ≤ D.room := by omega
      cases hg : Sat.get (nm s) D.files with
      | some f =>
        have hc : D.cur (nm s) = f := by unfold DiskM.cur; rw [hg]; rfl
        rw [hc] at hok ⊢
        exact rappend_is h s hs hl hm hg hroom hok
      | none =>
        have hc : D.cur (nm s) = ⟨[], 0⟩ := by unfold DiskM.cur; rw [hg]; rfl
        rw [hc] at hok ⊢
        exact rappend_new h s hs hl hno hm hg hroom (Nat.lt_of_not_le fun h4 => hf.2 ⟨hg, h4⟩) hok
  · have hR : D.append (nm s) l = (D, D.may [nm s]) := by unfold DiskM.append; rw [if_pos hm]
    rw [hR]
    have h1 : RefIn (w.alloc (.cells #[.string s] 9)) r v L own D := h.below ((Below.refl _ _).alloc (Nat.le_refl _) _)
    have hmay := rmay_calls h1 (some ⟨w.heap.size, 0, none⟩) [s] 1 (strs_one w s) (by simp) (by simpa using hs)
    simp only [List.map_cons, List.map_nil] at hmay
    have Hf := Lib.hid (rstep_same h ((Below.refl _ _).alloc (Nat.le_refl _) (.cells #[.string s] 9)) (D.may [nm s]))
    have Hmay := Lib.hid hmay
    generalize D.may [nm s] = e0 at *
    have hne : ((e0 : Int) != 0) = true := by simp; omega
    clear h h1 hmay hR hl
    go_enter Tryz.func266, Tryz.ntmps266
    go_wp2_with fail
    refine Hmay.out.mono ?_
    rintro e w2 ⟨rfl, rfl⟩
    go_wp2_with fail
    go_ret
    exact Hf.out
end
end Go.Proofs.YtogdfkilhpkloaaGreatDoor

namespace Go.Sat
open Go Go.RowKit
/-- Three may come up. -/
theorem ord_three {P : Program} {l : List Oper} {Q : Exit → Act → World → Prop} {md : Region.Mode} {S : World → Prop} {fuel : Nat} {listed : Array Bool} {a : Act} {w : World} (i j k : Nat) {oi oj ok : Oper} {ri rj rk : List Oper} (hdi : l.drop i = oi :: ri) (hdj : l.drop j = oj :: rj) (hdk : l.drop k = ok :: rk) (hr : Region.ready md l.toArray listed = [i, j, k])
    (hwi : Region.wanted oi (yielded l.toArray a.tmps) = true) (hwj : Region.wanted oj (yielded l.toArray a.tmps) = true) (hwk : Region.wanted ok (yielded l.toArray a.tmps) = true)
    (hi : ∀ K : Act → World → Prop, Shut (∀ a w, S w → (S w → wpAnyH P md l.toArray Q S fuel (listed.setIfInBounds i true) a w) → K a w) → Oper.wp P oi a w K Q)
    (hj : ∀ K : Act → World → Prop, Shut (∀ a w, S w → (S w → wpAnyH P md l.toArray Q S fuel (listed.setIfInBounds j true) a w) → K a w) → Oper.wp P oj a w K Q)
    (hk : ∀ K : Act → World → Prop, Shut (∀ a w, S w → (S w → wpAnyH P md l.toArray Q S fuel (listed.setIfInBounds k true) a w) → K a w) → Oper.wp P ok a w K Q) : wpAnyH P md l.toArray Q S (fuel + 1) listed a w :=
  wpAnyH_ready hr (by simp) (AllReadyH.cons (ord_get hdi) (fun K hK => by rw [if_pos hwi]; exact hi K hK) (AllReadyH.cons (ord_get hdj) (fun K hK => by rw [if_pos hwj]; exact hj K hK) (AllReadyH.cons (ord_get hdk) (fun K hK => by rw [if_pos hwk]; exact hk K hK) AllReadyH.nil)))
end Go.Sat
namespace Go.Proofs.YtogdfkilhpkloaaGreatDoor
open Go.RowKit Go.Sat Go.Maps

section
variable {w : World} {r : Nat} {v : Value} {L : List RFile} {own : Nat → Prop} {D : DiskM}

theorem wrap_small {z : Int} (h0 : -9223372036854775808 ≤ z) (h1 : z ≤ 9223372036854775807) : IntKind.i64.wrap z = z := IntWalk.i64_in z ⟨h0, h1⟩

/-- What a step that answers nothing leaves. -/
def RGone (w : World) (r : Nat) (own : Nat → Prop) (D : DiskM) (e : Ending) (w' : World) : Prop :=
  e = .returned (.tuple #[]) ∧ ∃ own' v' L', RefIn w' r v' L' own' D ∧ Chg (fun k => k = r) w w' ∧ (∀ k, own k → own' k) ∧ ∀ k, own' k → own k ∨ w.heap.size ≤ k

set_option maxRecDepth 100000 in
set_option maxHeartbeats 8000000 in
theorem rremove_calls (h : RefIn w r v L own D) (s : ByteArray) :
    Calls Tryz.prog 329 #[.pointer (some ⟨r, 0, none⟩), .string s] w (RGone w r own { D with files := del (nm s) D.files }) := by
  have hsp := spot_calls h s
  rw [h.is] at hsp
  cases hg : Sat.get (nm s) D.files with
  | none =>
    rw [hg] at hsp
    have hD : ({ D with files := del (nm s) D.files } : DiskM) = D := by rw [del_none hg]
    rw [hD]
    have Hf := Lib.hid (fun q => show RGone w r own D (.returned (.tuple #[])) (w.drewN q) from ⟨rfl, own, v, L, h.below ⟨rfl, rfl, rfl, Nat.le_refl _, fun _ _ => rfl⟩, ⟨rfl, rfl, rfl, Nat.le_refl _, fun _ _ _ => rfl⟩, fun _ h => h, fun _ h => .inl h⟩)
    have Hsp := Lib.hid hsp
    clear h hsp hg hD
    go_enter Tryz.func329, Tryz.ntmps329
    go_wp2_with fail
    refine Hsp.out.mono ?_
    rintro e w3 ⟨rfl, q, rfl⟩
    go_wp2_with fail
    go_end0
    exact Hf.out q
  | some f =>
    rw [hg] at hsp
    obtain ⟨x, hx, hxn, rfl⟩ := h.hit hg
    have hN1 : spotN (nm s) (L.map RFile.n) < L.length := (List.getElem?_eq_some_iff.1 hx).1
    have hdel : del (nm s) D.files = (L.take (spotN (nm s) (L.map RFile.n)) ++ L.drop (spotN (nm s) (L.map RFile.n) + 1)).map RFile.key := by
      have h1 : isAt (nm s) (D.files.map (·.1)) = true := by rw [(spot_get (nm s) h.ok.srt).1, hg]; rfl
      rw [del_at (nm s) h.ok.srt h1, ← h.names, List.map_append, List.map_take, List.map_drop, ← h.files]
    obtain ⟨pv, cv, hgv⟩ := h.slice
    have hNc : L.length ≤ cv := by
      rcases h.at with h0 | ⟨g, c0, e, hc, -⟩
      · rw [h0]; exact Nat.zero_le _
      · rw [hgv] at e; cases e; exact hc
    have hfit := h.fit
    have hok := ok_del h.ok (nm s)
    generalize spotN (nm s) (L.map RFile.n) = i at *
    have Hc1 := Lib.hid (show ∀ W, Below w.heap.size w W → W.cell? ⟨r, 1, none⟩ = some (.slice pv L.length cv) from fun W hb => (h.below hb).c1.trans (by rw [hgv]))
    have Hfr := Lib.hid (show ∀ W, Below w.heap.size w W → W.frozen? ⟨r, 1, none⟩ = false from fun W hb => frozen_of (h.below hb).cells 1)
    have Hrow := Lib.hid (show ∀ W, Below w.heap.size w W → OwnR W 423 3 (.slice pv L.length cv) L.length (L.flatMap RFile.cells) from fun W hb => by rw [← hgv]; exact (h.below hb).row)
    have Hone := Lib.hid (cells_one h.core.one)
    have Hend := Lib.hid (show ∀ w7 v7, Below w.heap.size w w7 → OwnR w7 423 3 v7 (i + (L.length - (i + 1))) ((L.flatMap RFile.cells).take (i * 3) ++ (L.flatMap RFile.cells).drop ((i + 1) * 3)) → (∀ k, v7.ownBlock = some k → w.heap.size ≤ k) → RGone w r own { D with files := del (nm s) D.files } (.returned (.tuple #[])) (w7.setCell ⟨r, 1, none⟩ v7) from fun w7 v7 hb h7 hn7 => by
      have hlen' : (L.take i ++ L.drop (i + 1)).length = i + (L.length - (i + 1)) := by
        rw [List.length_append, List.length_take, List.length_drop]
        omega
      have hcore := (h.below hb).core.relist (v' := v7) (L' := L.take i ++ L.drop (i + 1)) (by rw [hlen', List.flatMap_append, cells_take, cells_drop]; exact h7) (fun x hx => by
        rcases List.mem_append.1 hx with hx | hx
        · exact .inl (List.mem_of_mem_take hx)
        · exact .inl (List.mem_of_mem_drop hx)) (fun k hk ho => by
          have h1 := hn7 k hk
          have h2 := h.olt k ho
          omega)
      exact ⟨rfl, _, _, _, hcore.full rfl rfl hdel hok, chg_below hb (chg_own (own := fun k => k = r) rfl), fun _ h => .inl h, fun k hk => hk.imp id (hn7 k)⟩)
    obtain ⟨iF, hFi, hF0, hF1, hF2⟩ := info_parts (show (Tryz.prog.info? 423).map (fun i => (i.zero, i.size, i.bytes)) = some (some (.agg #[.string ⟨#[]⟩, .slice none 0 0, .int .i64 0]), 3, 48) by kernel_rfl)
    have hs1 : ∀ W, (Instr.slice 305 (.slice pv L.length cv) none (some (.int .i64 (i : Int))) none).run Tryz.prog W = .ok (.slice pv i cv) W := fun W => run_upto W Tryz.underlying305 hFi pv _ cv i (by omega)
    have hs2 : ∀ W, (Instr.slice 305 (.slice pv L.length cv) (some (.int .i64 ((i : Int) + 1))) none none).run Tryz.prog W = .ok (.slice (if cv - (i + 1) = 0 then pv else pv.map fun x => x.add ((i + 1) * 3)) (L.length - (i + 1)) (cv - (i + 1))) W := fun W => by
      have := run_from_any (P := Tryz.prog) W Tryz.underlying305 hFi pv L.length cv (i + 1) (by omega) hNc
      rw [hF1] at this
      exact this
    have hwr : IntKind.i64.wrap ((i : Int) + 1) = (i : Int) + 1 := wrap_small (by omega) (by omega)
    have Hup := Lib.hid (show ∀ W, Below w.heap.size w W → Holds W 3 (.slice pv i cv) i ((L.flatMap RFile.cells).take (i * 3)) from fun W hb => Holds.upto (OwnR.holds (Hrow.out _ hb)) (by omega) cv)
    have Hfrom := Lib.hid (show ∀ W, Below w.heap.size w W → Holds W 3 (.slice (if cv - (i + 1) = 0 then pv else pv.map fun x => x.add ((i + 1) * 3)) (L.length - (i + 1)) (cv - (i + 1))) (L.length - (i + 1)) ((L.flatMap RFile.cells).drop ((i + 1) * 3)) from fun W hb => OwnR.cut_from (Hrow.out W hb) (by omega))
    generalize hpF : (if cv - (i + 1) = 0 then pv else pv.map fun x => x.add ((i + 1) * 3)) = pF at *
    have Hsp := Lib.hid hsp
    clear h hg hok hsp hdel hpF hx
    subst hgv
    generalize hN : L.length = N at *
    clear hN
    go_enter Tryz.func329, Tryz.ntmps329
    go_wp2_with fail
    refine Hsp.out.mono ?_
    rintro e w3 ⟨rfl, q, rfl⟩
    have X0 := Lib.hid (show Below w.heap.size w (w.drewN q).drew from ⟨rfl, rfl, rfl, Nat.le_refl _, fun _ _ => rfl⟩)
    go_wp2_with fail
    refine ord_start (fun _ : World => True) (n := 20) (by kernel_rfl) rfl trivial (fun _ => ?_)
    generalize (w.drewN q).drew = Wd at *
    refine Pl [0,2,3,4,6,9,10,11,13,14] ?_
    iterate 10 (refine Pc rfl ?_;simp only [Act.put, uA, uB, uC])
    refine Pn ?_
    refine ord_three 1 5 12 rfl rfl rfl (by kernel_rfl) (by rfl) (by rfl) (by rfl) (fun K hK => ?_) (fun K hK => ?_) (fun K hK => ?_)
    · go_wp2_with fail
      have X1 := Lib.hid (X0.out.alloc X0.out.size (.cells #[] 423))
      refine hK.out _ _ trivial (fun _ => ?_)
      clear hK
      try simp only [Act.put, List.setIfInBounds_toArray, List.set_cons_zero, List.set_cons_succ]
      refine ord_two 5 12 rfl rfl (by kernel_rfl) (by rfl) (by rfl) (fun K hK => ?_) (fun K hK => ?_)
      · have hc2 := Hc1.out _ X1.out
        go_wp2_with fail
        clear hc2
        refine hK.out _ _ trivial (fun _ => ?_)
        clear hK
        try simp only [Act.put, List.setIfInBounds_toArray, List.set_cons_zero, List.set_cons_succ]
        refine ord_take 7 (v := ?v2x7) rfl (by kernel_rfl) (by kernel_rfl) (by kernel_rfl) (fun _ _ _ h => h) (by rfl) trivial ?y2x7 ?_
        case y2x7 => (intro w hSw; clear hSw; go_simp; try with_reducible rfl)
        simp only [Act.put, List.setIfInBounds_toArray, List.set_cons_zero, List.set_cons_succ]
        refine ord_two 8 12 rfl rfl (by kernel_rfl) (by rfl) (by rfl) (fun K hK => ?_) (fun K hK => ?_)
        · have hown0 := own_emptyS Wd 423 3
          have hup := Hup.out _ X1.out
          refine wp_app (.tmp 14) (.tmp 20) 305 (by rfl) 423 iF _ 3 48 Tryz.underlying305 hFi hF0 hF1 hF2 rfl (by decide) (.slice (some ⟨Wd.heap.size, 0, none⟩) 0 0) 0 [] (by rfl) hown0 (.slice pv i cv) i _ (by rfl) hup (fun u hu => Hone.out u (List.mem_of_mem_take hu)) (by unfold maxLen; omega) (by omega) ?_
          clear hown0 hup
          intro v6 w6 hown6 hgrow6 hloc6
          have X6 := Lib.hid (X1.out.grown hgrow6 X1.out.size (fun j e => by have := X0.out.size; simp [Value.ownBlock] at e; omega))
          have hnew6 := own_ge (B := w.heap.size) hloc6 (fun k hk => by have := X0.out.size; simp [Value.ownBlock] at hk; omega) X1.out.size
          rw [Nat.zero_add, List.nil_append] at hown6
          obtain ⟨p6, c6, rfl⟩ := OwnR.shape hown6
          have Hown6 := Lib.hid hown6
          have Hnew6 := Lib.hid hnew6
          clear hgrow6 hloc6 hown6 hnew6
          refine hK.out _ _ trivial (fun _ => ?_)
          clear hK
          try simp only [Act.put, List.setIfInBounds_toArray, List.set_cons_zero, List.set_cons_succ]
          refine ord_one 12 rfl (by kernel_rfl) (by rfl) (fun K hK => ?_)
          have hc2 := Hc1.out _ X6.out
          go_wp2_with fail
          clear hc2
          refine hK.out _ _ trivial (fun _ => ?_)
          clear hK
          try simp only [Act.put, List.setIfInBounds_toArray, List.set_cons_zero, List.set_cons_succ]
          refine ord_take 15 (v := ?v4x15) rfl (by kernel_rfl) (by kernel_rfl) (by kernel_rfl) (fun _ _ _ h => h) (by rfl) trivial ?y4x15 ?_
          case y4x15 => (intro w hSw; clear hSw; go_simp; try with_reducible rfl)
          simp only [Act.put, List.setIfInBounds_toArray, List.set_cons_zero, List.set_cons_succ]
          refine ord_one 16 rfl (by kernel_rfl) (by rfl) (fun K hK => ?_)
          have hfrom := Hfrom.out _ X6.out
          refine wp_app (.tmp 21) (.tmp 28) 305 (by rfl) 423 iF _ 3 48 Tryz.underlying305 hFi hF0 hF1 hF2 rfl (by decide) (.slice p6 i c6) i _ (by rfl) Hown6.out (.slice pF (N - (i + 1)) (cv - (i + 1))) (N - (i + 1)) _ (by rfl) hfrom (fun u hu => Hone.out u (List.mem_of_mem_drop hu)) (by unfold maxLen; omega) (by omega) ?_
          clear hfrom
          intro v7 w7 hown7 hgrow7 hloc7
          have X7 := Lib.hid (X6.out.grown hgrow7 X6.out.size Hnew6.out)
          have hnew7 := own_ge (B := w.heap.size) hloc7 Hnew6.out X6.out.size
          obtain ⟨p7, c7, rfl⟩ := OwnR.shape hown7
          have Hend7 := Lib.hid (Hend.out w7 _ X7.out hown7 hnew7)
          clear hgrow7 hloc7 hown7 hnew7
          refine hK.out _ _ trivial (fun _ => ?_)
          clear hK
          try simp only [Act.put, List.setIfInBounds_toArray, List.set_cons_zero, List.set_cons_succ]
          refine Pl [17,18] ?_
          iterate 2 (refine Pc rfl ?_;simp only [Act.put, uA, uB, uC])
          refine Pn ?_
          refine ord_one 19 rfl (by kernel_rfl) (by rfl) (fun K hK => ?_)
          have hc2 := Hc1.out _ X7.out
          have hfz1 := Hfr.out _ X7.out
          go_wp2_with fail
          clear hc2 hfz1
          refine hK.out _ _ trivial (fun _ => ?_)
          clear hK
          try simp only [Act.put, List.setIfInBounds_toArray, List.set_cons_zero, List.set_cons_succ]
          refine wpAnyH_done (by kernel_rfl) ?_ _
          go_wp2_with fail
          go_end0
          exact Hend7.out
        · have hc2 := Hc1.out _ X1.out
          go_wp2_with fail
          clear hc2
          refine hK.out _ _ trivial (fun _ => ?_)
          clear hK
          try simp only [Act.put, List.setIfInBounds_toArray, List.set_cons_zero, List.set_cons_succ]
          refine ord_take 15 (v := ?v6x15) rfl (by kernel_rfl) (by kernel_rfl) (by kernel_rfl) (fun _ _ _ h => h) (by rfl) trivial ?y6x15 ?_
          case y6x15 => (intro w hSw; clear hSw; go_simp; try with_reducible rfl)
          simp only [Act.put, List.setIfInBounds_toArray, List.set_cons_zero, List.set_cons_succ]
          refine ord_one 8 rfl (by kernel_rfl) (by rfl) (fun K hK => ?_)
          have hown0 := own_emptyS Wd 423 3
          have hup := Hup.out _ X1.out
          refine wp_app (.tmp 14) (.tmp 20) 305 (by rfl) 423 iF _ 3 48 Tryz.underlying305 hFi hF0 hF1 hF2 rfl (by decide) (.slice (some ⟨Wd.heap.size, 0, none⟩) 0 0) 0 [] (by rfl) hown0 (.slice pv i cv) i _ (by rfl) hup (fun u hu => Hone.out u (List.mem_of_mem_take hu)) (by unfold maxLen; omega) (by omega) ?_
          clear hown0 hup
          intro v6 w6 hown6 hgrow6 hloc6
          have X6 := Lib.hid (X1.out.grown hgrow6 X1.out.size (fun j e => by have := X0.out.size; simp [Value.ownBlock] at e; omega))
          have hnew6 := own_ge (B := w.heap.size) hloc6 (fun k hk => by have := X0.out.size; simp [Value.ownBlock] at hk; omega) X1.out.size
          rw [Nat.zero_add, List.nil_append] at hown6
          obtain ⟨p6, c6, rfl⟩ := OwnR.shape hown6
          have Hown6 := Lib.hid hown6
          have Hnew6 := Lib.hid hnew6
          clear hgrow6 hloc6 hown6 hnew6
          refine hK.out _ _ trivial (fun _ => ?_)
          clear hK
          try simp only [Act.put, List.setIfInBounds_toArray, List.set_cons_zero, List.set_cons_succ]
          refine ord_one 16 rfl (by kernel_rfl) (by rfl) (fun K hK => ?_)
          have hfrom := Hfrom.out _ X6.out
          refine wp_app (.tmp 21) (.tmp 28) 305 (by rfl) 423 iF _ 3 48 Tryz.underlying305 hFi hF0 hF1 hF2 rfl (by decide) (.slice p6 i c6) i _ (by rfl) Hown6.out (.slice pF (N - (i + 1)) (cv - (i + 1))) (N - (i + 1)) _ (by rfl) hfrom (fun u hu => Hone.out u (List.mem_of_mem_drop hu)) (by unfold maxLen; omega) (by omega) ?_
          clear hfrom
          intro v7 w7 hown7 hgrow7 hloc7
          have X7 := Lib.hid (X6.out.grown hgrow7 X6.out.size Hnew6.out)
          have hnew7 := own_ge (B := w.heap.size) hloc7 Hnew6.out X6.out.size
          obtain ⟨p7, c7, rfl⟩ := OwnR.shape hown7
          have Hend7 := Lib.hid (Hend.out w7 _ X7.out hown7 hnew7)
          clear hgrow7 hloc7 hown7 hnew7
          refine hK.out _ _ trivial (fun _ => ?_)
          clear hK
          try simp only [Act.put, List.setIfInBounds_toArray, List.set_cons_zero, List.set_cons_succ]
          refine Pl [17,18] ?_
          iterate 2 (refine Pc rfl ?_;simp only [Act.put, uA, uB, uC])
          refine Pn ?_
          refine ord_one 19 rfl (by kernel_rfl) (by rfl) (fun K hK => ?_)
          have hc2 := Hc1.out _ X7.out
          have hfz1 := Hfr.out _ X7.out
          go_wp2_with fail
          clear hc2 hfz1
          refine hK.out _ _ trivial (fun _ => ?_)
          clear hK
          try simp only [Act.put, List.setIfInBounds_toArray, List.set_cons_zero, List.set_cons_succ]
          refine wpAnyH_done (by kernel_rfl) ?_ _
          go_wp2_with fail
          go_end0
          exact Hend7.out
      · have hc2 := Hc1.out _ X1.out
        go_wp2_with fail
        clear hc2
        refine hK.out _ _ trivial (fun _ => ?_)
        clear hK
        try simp only [Act.put, List.setIfInBounds_toArray, List.set_cons_zero, List.set_cons_succ]
        refine ord_take 15 (v := ?v9x15) rfl (by kernel_rfl) (by kernel_rfl) (by kernel_rfl) (fun _ _ _ h => h) (by rfl) trivial ?y9x15 ?_
        case y9x15 => (intro w hSw; clear hSw; go_simp; try with_reducible rfl)
        simp only [Act.put, List.setIfInBounds_toArray, List.set_cons_zero, List.set_cons_succ]
        refine ord_one 5 rfl (by kernel_rfl) (by rfl) (fun K hK => ?_)
        have hc2 := Hc1.out _ X1.out
        go_wp2_with fail
        clear hc2
        refine hK.out _ _ trivial (fun _ => ?_)
        clear hK
        try simp only [Act.put, List.setIfInBounds_toArray, List.set_cons_zero, List.set_cons_succ]
        refine ord_take 7 (v := ?v10x7) rfl (by kernel_rfl) (by kernel_rfl) (by kernel_rfl) (fun _ _ _ h => h) (by rfl) trivial ?y10x7 ?_
        case y10x7 => (intro w hSw; clear hSw; go_simp; try with_reducible rfl)
        simp only [Act.put, List.setIfInBounds_toArray, List.set_cons_zero, List.set_cons_succ]
        refine ord_one 8 rfl (by kernel_rfl) (by rfl) (fun K hK => ?_)
        have hown0 := own_emptyS Wd 423 3
        have hup := Hup.out _ X1.out
        refine wp_app (.tmp 14) (.tmp 20) 305 (by rfl) 423 iF _ 3 48 Tryz.underlying305 hFi hF0 hF1 hF2 rfl (by decide) (.slice (some ⟨Wd.heap.size, 0, none⟩) 0 0) 0 [] (by rfl) hown0 (.slice pv i cv) i _ (by rfl) hup (fun u hu => Hone.out u (List.mem_of_mem_take hu)) (by unfold maxLen; omega) (by omega) ?_
        clear hown0 hup
        intro v6 w6 hown6 hgrow6 hloc6
        have X6 := Lib.hid (X1.out.grown hgrow6 X1.out.size (fun j e => by have := X0.out.size; simp [Value.ownBlock] at e; omega))
        have hnew6 := own_ge (B := w.heap.size) hloc6 (fun k hk => by have := X0.out.size; simp [Value.ownBlock] at hk; omega) X1.out.size
        rw [Nat.zero_add, List.nil_append] at hown6
        obtain ⟨p6, c6, rfl⟩ := OwnR.shape hown6
        have Hown6 := Lib.hid hown6
        have Hnew6 := Lib.hid hnew6
        clear hgrow6 hloc6 hown6 hnew6
        refine hK.out _ _ trivial (fun _ => ?_)
        clear hK
        try simp only [Act.put, List.setIfInBounds_toArray, List.set_cons_zero, List.set_cons_succ]
        refine ord_one 16 rfl (by kernel_rfl) (by rfl) (fun K hK => ?_)
        have hfrom := Hfrom.out _ X6.out
        refine wp_app (.tmp 21) (.tmp 28) 305 (by rfl) 423 iF _ 3 48 Tryz.underlying305 hFi hF0 hF1 hF2 rfl (by decide) (.slice p6 i c6) i _ (by rfl) Hown6.out (.slice pF (N - (i + 1)) (cv - (i + 1))) (N - (i + 1)) _ (by rfl) hfrom (fun u hu => Hone.out u (List.mem_of_mem_drop hu)) (by unfold maxLen; omega) (by omega) ?_
        clear hfrom
        intro v7 w7 hown7 hgrow7 hloc7
        have X7 := Lib.hid (X6.out.grown hgrow7 X6.out.size Hnew6.out)
        have hnew7 := own_ge (B := w.heap.size) hloc7 Hnew6.out X6.out.size
        obtain ⟨p7, c7, rfl⟩ := OwnR.shape hown7
        have Hend7 := Lib.hid (Hend.out w7 _ X7.out hown7 hnew7)
        clear hgrow7 hloc7 hown7 hnew7
        refine hK.out _ _ trivial (fun _ => ?_)
        clear hK
        try simp only [Act.put, List.setIfInBounds_toArray, List.set_cons_zero, List.set_cons_succ]
        refine Pl [17,18] ?_
        iterate 2 (refine Pc rfl ?_;simp only [Act.put, uA, uB, uC])
        refine Pn ?_
        refine ord_one 19 rfl (by kernel_rfl) (by rfl) (fun K hK => ?_)
        have hc2 := Hc1.out _ X7.out
        have hfz1 := Hfr.out _ X7.out
        go_wp2_with fail
        clear hc2 hfz1
        refine hK.out _ _ trivial (fun _ => ?_)
        clear hK
        try simp only [Act.put, List.setIfInBounds_toArray, List.set_cons_zero, List.set_cons_succ]
        refine wpAnyH_done (by kernel_rfl) ?_ _
        go_wp2_with fail
        go_end0
        exact Hend7.out
    · have hc2 := Hc1.out _ X0.out
      go_wp2_with fail
      clear hc2
      refine hK.out _ _ trivial (fun _ => ?_)
      clear hK
      try simp only [Act.put, List.setIfInBounds_toArray, List.set_cons_zero, List.set_cons_succ]
      refine ord_take 7 (v := ?v13x7) rfl (by kernel_rfl) (by kernel_rfl) (by kernel_rfl) (fun _ _ _ h => h) (by rfl) trivial ?y13x7 ?_
      case y13x7 => (intro w hSw; clear hSw; go_simp; try with_reducible rfl)
      simp only [Act.put, List.setIfInBounds_toArray, List.set_cons_zero, List.set_cons_succ]
      refine ord_two 1 12 rfl rfl (by kernel_rfl) (by rfl) (by rfl) (fun K hK => ?_) (fun K hK => ?_)
      · go_wp2_with fail
        have X1 := Lib.hid (X0.out.alloc X0.out.size (.cells #[] 423))
        refine hK.out _ _ trivial (fun _ => ?_)
        clear hK
        try simp only [Act.put, List.setIfInBounds_toArray, List.set_cons_zero, List.set_cons_succ]
        refine ord_two 8 12 rfl rfl (by kernel_rfl) (by rfl) (by rfl) (fun K hK => ?_) (fun K hK => ?_)
        · have hown0 := own_emptyS Wd 423 3
          have hup := Hup.out _ X1.out
          refine wp_app (.tmp 14) (.tmp 20) 305 (by rfl) 423 iF _ 3 48 Tryz.underlying305 hFi hF0 hF1 hF2 rfl (by decide) (.slice (some ⟨Wd.heap.size, 0, none⟩) 0 0) 0 [] (by rfl) hown0 (.slice pv i cv) i _ (by rfl) hup (fun u hu => Hone.out u (List.mem_of_mem_take hu)) (by unfold maxLen; omega) (by omega) ?_
          clear hown0 hup
          intro v6 w6 hown6 hgrow6 hloc6
          have X6 := Lib.hid (X1.out.grown hgrow6 X1.out.size (fun j e => by have := X0.out.size; simp [Value.ownBlock] at e; omega))
          have hnew6 := own_ge (B := w.heap.size) hloc6 (fun k hk => by have := X0.out.size; simp [Value.ownBlock] at hk; omega) X1.out.size
          rw [Nat.zero_add, List.nil_append] at hown6
          obtain ⟨p6, c6, rfl⟩ := OwnR.shape hown6
          have Hown6 := Lib.hid hown6
          have Hnew6 := Lib.hid hnew6
          clear hgrow6 hloc6 hown6 hnew6
          refine hK.out _ _ trivial (fun _ => ?_)
          clear hK
          try simp only [Act.put, List.setIfInBounds_toArray, List.set_cons_zero, List.set_cons_succ]
          refine ord_one 12 rfl (by kernel_rfl) (by rfl) (fun K hK => ?_)
          have hc2 := Hc1.out _ X6.out
          go_wp2_with fail
          clear hc2
          refine hK.out _ _ trivial (fun _ => ?_)
          clear hK
          try simp only [Act.put, List.setIfInBounds_toArray, List.set_cons_zero, List.set_cons_succ]
          refine ord_take 15 (v := ?v16x15) rfl (by kernel_rfl) (by kernel_rfl) (by kernel_rfl) (fun _ _ _ h => h) (by rfl) trivial ?y16x15 ?_
          case y16x15 => (intro w hSw; clear hSw; go_simp; try with_reducible rfl)
          simp only [Act.put, List.setIfInBounds_toArray, List.set_cons_zero, List.set_cons_succ]
          refine ord_one 16 rfl (by kernel_rfl) (by rfl) (fun K hK => ?_)
          have hfrom := Hfrom.out _ X6.out
          refine wp_app (.tmp 21) (.tmp 28) 305 (by rfl) 423 iF _ 3 48 Tryz.underlying305 hFi hF0 hF1 hF2 rfl (by decide) (.slice p6 i c6) i _ (by rfl) Hown6.out (.slice pF (N - (i + 1)) (cv - (i + 1))) (N - (i + 1)) _ (by rfl) hfrom (fun u hu => Hone.out u (List.mem_of_mem_drop hu)) (by unfold maxLen; omega) (by omega) ?_
          clear hfrom
          intro v7 w7 hown7 hgrow7 hloc7
          have X7 := Lib.hid (X6.out.grown hgrow7 X6.out.size Hnew6.out)
          have hnew7 := own_ge (B := w.heap.size) hloc7 Hnew6.out X6.out.size
          obtain ⟨p7, c7, rfl⟩ := OwnR.shape hown7
          have Hend7 := Lib.hid (Hend.out w7 _ X7.out hown7 hnew7)
          clear hgrow7 hloc7 hown7 hnew7
          refine hK.out _ _ trivial (fun _ => ?_)
          clear hK
          try simp only [Act.put, List.setIfInBounds_toArray, List.set_cons_zero, List.set_cons_succ]
          refine Pl [17,18] ?_
          iterate 2 (refine Pc rfl ?_;simp only [Act.put, uA, uB, uC])
          refine Pn ?_
          refine ord_one 19 rfl (by kernel_rfl) (by rfl) (fun K hK => ?_)
          have hc2 := Hc1.out _ X7.out
          have hfz1 := Hfr.out _ X7.out
          go_wp2_with fail
          clear hc2 hfz1
          refine hK.out _ _ trivial (fun _ => ?_)
          clear hK
          try simp only [Act.put, List.setIfInBounds_toArray, List.set_cons_zero, List.set_cons_succ]
          refine wpAnyH_done (by kernel_rfl) ?_ _
          go_wp2_with fail
          go_end0
          exact Hend7.out
        · have hc2 := Hc1.out _ X1.out
          go_wp2_with fail
          clear hc2
          refine hK.out _ _ trivial (fun _ => ?_)
          clear hK
          try simp only [Act.put, List.setIfInBounds_toArray, List.set_cons_zero, List.set_cons_succ]
          refine ord_take 15 (v := ?v18x15) rfl (by kernel_rfl) (by kernel_rfl) (by kernel_rfl) (fun _ _ _ h => h) (by rfl) trivial ?y18x15 ?_
          case y18x15 => (intro w hSw; clear hSw; go_simp; try with_reducible rfl)
          simp only [Act.put, List.setIfInBounds_toArray, List.set_cons_zero, List.set_cons_succ]
          refine ord_one 8 rfl (by kernel_rfl) (by rfl) (fun K hK => ?_)
          have hown0 := own_emptyS Wd 423 3
          have hup := Hup.out _ X1.out
          refine wp_app (.tmp 14) (.tmp 20) 305 (by rfl) 423 iF _ 3 48 Tryz.underlying305 hFi hF0 hF1 hF2 rfl (by decide) (.slice (some ⟨Wd.heap.size, 0, none⟩) 0 0) 0 [] (by rfl) hown0 (.slice pv i cv) i _ (by rfl) hup (fun u hu => Hone.out u (List.mem_of_mem_take hu)) (by unfold maxLen; omega) (by omega) ?_
          clear hown0 hup
          intro v6 w6 hown6 hgrow6 hloc6
          have X6 := Lib.hid (X1.out.grown hgrow6 X1.out.size (fun j e => by have := X0.out.size; simp [Value.ownBlock] at e; omega))
          have hnew6 := own_ge (B := w.heap.size) hloc6 (fun k hk => by have := X0.out.size; simp [Value.ownBlock] at hk; omega) X1.out.size
          rw [Nat.zero_add, List.nil_append] at hown6
          obtain ⟨p6, c6, rfl⟩ := OwnR.shape hown6
          have Hown6 := Lib.hid hown6
          have Hnew6 := Lib.hid hnew6
          clear hgrow6 hloc6 hown6 hnew6
          refine hK.out _ _ trivial (fun _ => ?_)
          clear hK
          try simp only [Act.put, List.setIfInBounds_toArray, List.set_cons_zero, List.set_cons_succ]
          refine ord_one 16 rfl (by kernel_rfl) (by rfl) (fun K hK => ?_)
          have hfrom := Hfrom.out _ X6.out
          refine wp_app (.tmp 21) (.tmp 28) 305 (by rfl) 423 iF _ 3 48 Tryz.underlying305 hFi hF0 hF1 hF2 rfl (by decide) (.slice p6 i c6) i _ (by rfl) Hown6.out (.slice pF (N - (i + 1)) (cv - (i + 1))) (N - (i + 1)) _ (by rfl) hfrom (fun u hu => Hone.out u (List.mem_of_mem_drop hu)) (by unfold maxLen; omega) (by omega) ?_
          clear hfrom
          intro v7 w7 hown7 hgrow7 hloc7
          have X7 := Lib.hid (X6.out.grown hgrow7 X6.out.size Hnew6.out)
          have hnew7 := own_ge (B := w.heap.size) hloc7 Hnew6.out X6.out.size
          obtain ⟨p7, c7, rfl⟩ := OwnR.shape hown7
          have Hend7 := Lib.hid (Hend.out w7 _ X7.out hown7 hnew7)
          clear hgrow7 hloc7 hown7 hnew7
          refine hK.out _ _ trivial (fun _ => ?_)
          clear hK
          try simp only [Act.put, List.setIfInBounds_toArray, List.set_cons_zero, List.set_cons_succ]
          refine Pl [17,18] ?_
          iterate 2 (refine Pc rfl ?_;simp only [Act.put, uA, uB, uC])
          refine Pn ?_
          refine ord_one 19 rfl (by kernel_rfl) (by rfl) (fun K hK => ?_)
          have hc2 := Hc1.out _ X7.out
          have hfz1 := Hfr.out _ X7.out
          go_wp2_with fail
          clear hc2 hfz1
          refine hK.out _ _ trivial (fun _ => ?_)
          clear hK
          try simp only [Act.put, List.setIfInBounds_toArray, List.set_cons_zero, List.set_cons_succ]
          refine wpAnyH_done (by kernel_rfl) ?_ _
          go_wp2_with fail
          go_end0
          exact Hend7.out
      · have hc2 := Hc1.out _ X0.out
        go_wp2_with fail
        clear hc2
        refine hK.out _ _ trivial (fun _ => ?_)
        clear hK
        try simp only [Act.put, List.setIfInBounds_toArray, List.set_cons_zero, List.set_cons_succ]
        refine ord_take 15 (v := ?v21x15) rfl (by kernel_rfl) (by kernel_rfl) (by kernel_rfl) (fun _ _ _ h => h) (by rfl) trivial ?y21x15 ?_
        case y21x15 => (intro w hSw; clear hSw; go_simp; try with_reducible rfl)
        simp only [Act.put, List.setIfInBounds_toArray, List.set_cons_zero, List.set_cons_succ]
        refine ord_one 1 rfl (by kernel_rfl) (by rfl) (fun K hK => ?_)
        go_wp2_with fail
        have X1 := Lib.hid (X0.out.alloc X0.out.size (.cells #[] 423))
        refine hK.out _ _ trivial (fun _ => ?_)
        clear hK
        try simp only [Act.put, List.setIfInBounds_toArray, List.set_cons_zero, List.set_cons_succ]
        refine ord_one 8 rfl (by kernel_rfl) (by rfl) (fun K hK => ?_)
        have hown0 := own_emptyS Wd 423 3
        have hup := Hup.out _ X1.out
        refine wp_app (.tmp 14) (.tmp 20) 305 (by rfl) 423 iF _ 3 48 Tryz.underlying305 hFi hF0 hF1 hF2 rfl (by decide) (.slice (some ⟨Wd.heap.size, 0, none⟩) 0 0) 0 [] (by rfl) hown0 (.slice pv i cv) i _ (by rfl) hup (fun u hu => Hone.out u (List.mem_of_mem_take hu)) (by unfold maxLen; omega) (by omega) ?_
        clear hown0 hup
        intro v6 w6 hown6 hgrow6 hloc6
        have X6 := Lib.hid (X1.out.grown hgrow6 X1.out.size (fun j e => by have := X0.out.size; simp [Value.ownBlock] at e; omega))
        have hnew6 := own_ge (B := w.heap.size) hloc6 (fun k hk => by have := X0.out.size; simp [Value.ownBlock] at hk; omega) X1.out.size
        rw [Nat.zero_add, List.nil_append] at hown6
        obtain ⟨p6, c6, rfl⟩ := OwnR.shape hown6
        have Hown6 := Lib.hid hown6
        have Hnew6 := Lib.hid hnew6
        clear hgrow6 hloc6 hown6 hnew6
        refine hK.out _ _ trivial (fun _ => ?_)
        clear hK
        try simp only [Act.put, List.setIfInBounds_toArray, List.set_cons_zero, List.set_cons_succ]
        refine ord_one 16 rfl (by kernel_rfl) (by rfl) (fun K hK => ?_)
        have hfrom := Hfrom.out _ X6.out
        refine wp_app (.tmp 21) (.tmp 28) 305 (by rfl) 423 iF _ 3 48 Tryz.underlying305 hFi hF0 hF1 hF2 rfl (by decide) (.slice p6 i c6) i _ (by rfl) Hown6.out (.slice pF (N - (i + 1)) (cv - (i + 1))) (N - (i + 1)) _ (by rfl) hfrom (fun u hu => Hone.out u (List.mem_of_mem_drop hu)) (by unfold maxLen; omega) (by omega) ?_
        clear hfrom
        intro v7 w7 hown7 hgrow7 hloc7
        have X7 := Lib.hid (X6.out.grown hgrow7 X6.out.size Hnew6.out)
        have hnew7 := own_ge (B := w.heap.size) hloc7 Hnew6.out X6.out.size
        obtain ⟨p7, c7, rfl⟩ := OwnR.shape hown7
        have Hend7 := Lib.hid (Hend.out w7 _ X7.out hown7 hnew7)
        clear hgrow7 hloc7 hown7 hnew7
        refine hK.out _ _ trivial (fun _ => ?_)
        clear hK
        try simp only [Act.put, List.setIfInBounds_toArray, List.set_cons_zero, List.set_cons_succ]
        refine Pl [17,18] ?_
        iterate 2 (refine Pc rfl ?_;simp only [Act.put, uA, uB, uC])
        refine Pn ?_
        refine ord_one 19 rfl (by kernel_rfl) (by rfl) (fun K hK => ?_)
        have hc2 := Hc1.out _ X7.out
        have hfz1 := Hfr.out _ X7.out
        go_wp2_with fail
        clear hc2 hfz1
        refine hK.out _ _ trivial (fun _ => ?_)
        clear hK
        try simp only [Act.put, List.setIfInBounds_toArray, List.set_cons_zero, List.set_cons_succ]
        refine wpAnyH_done (by kernel_rfl) ?_ _
        go_wp2_with fail
        go_end0
        exact Hend7.out
    · have hc2 := Hc1.out _ X0.out
      go_wp2_with fail
      clear hc2
      refine hK.out _ _ trivial (fun _ => ?_)
      clear hK
      try simp only [Act.put, List.setIfInBounds_toArray, List.set_cons_zero, List.set_cons_succ]
      refine ord_take 15 (v := ?v25x15) rfl (by kernel_rfl) (by kernel_rfl) (by kernel_rfl) (fun _ _ _ h => h) (by rfl) trivial ?y25x15 ?_
      case y25x15 => (intro w hSw; clear hSw; go_simp; try with_reducible rfl)
      simp only [Act.put, List.setIfInBounds_toArray, List.set_cons_zero, List.set_cons_succ]
      refine ord_two 1 5 rfl rfl (by kernel_rfl) (by rfl) (by rfl) (fun K hK => ?_) (fun K hK => ?_)
      · go_wp2_with fail
        have X1 := Lib.hid (X0.out.alloc X0.out.size (.cells #[] 423))
        refine hK.out _ _ trivial (fun _ => ?_)
        clear hK
        try simp only [Act.put, List.setIfInBounds_toArray, List.set_cons_zero, List.set_cons_succ]
        refine ord_one 5 rfl (by kernel_rfl) (by rfl) (fun K hK => ?_)
        have hc2 := Hc1.out _ X1.out
        go_wp2_with fail
        clear hc2
        refine hK.out _ _ trivial (fun _ => ?_)
        clear hK
        try simp only [Act.put, List.setIfInBounds_toArray, List.set_cons_zero, List.set_cons_succ]
        refine ord_take 7 (v := ?v27x7) rfl (by kernel_rfl) (by kernel_rfl) (by kernel_rfl) (fun _ _ _ h => h) (by rfl) trivial ?y27x7 ?_
        case y27x7 => (intro w hSw; clear hSw; go_simp; try with_reducible rfl)
        simp only [Act.put, List.setIfInBounds_toArray, List.set_cons_zero, List.set_cons_succ]
        refine ord_one 8 rfl (by kernel_rfl) (by rfl) (fun K hK => ?_)
        have hown0 := own_emptyS Wd 423 3
        have hup := Hup.out _ X1.out
        refine wp_app (.tmp 14) (.tmp 20) 305 (by rfl) 423 iF _ 3 48 Tryz.underlying305 hFi hF0 hF1 hF2 rfl (by decide) (.slice (some ⟨Wd.heap.size, 0, none⟩) 0 0) 0 [] (by rfl) hown0 (.slice pv i cv) i _ (by rfl) hup (fun u hu => Hone.out u (List.mem_of_mem_take hu)) (by unfold maxLen; omega) (by omega) ?_
        clear hown0 hup
        intro v6 w6 hown6 hgrow6 hloc6
        have X6 := Lib.hid (X1.out.grown hgrow6 X1.out.size (fun j e => by have := X0.out.size; simp [Value.ownBlock] at e; omega))
        have hnew6 := own_ge (B := w.heap.size) hloc6 (fun k hk => by have := X0.out.size; simp [Value.ownBlock] at hk; omega) X1.out.size
        rw [Nat.zero_add, List.nil_append] at hown6
        obtain ⟨p6, c6, rfl⟩ := OwnR.shape hown6
        have Hown6 := Lib.hid hown6
        have Hnew6 := Lib.hid hnew6
        clear hgrow6 hloc6 hown6 hnew6
        refine hK.out _ _ trivial (fun _ => ?_)
        clear hK
        try simp only [Act.put, List.setIfInBounds_toArray, List.set_cons_zero, List.set_cons_succ]
        refine ord_one 16 rfl (by kernel_rfl) (by rfl) (fun K hK => ?_)
        have hfrom := Hfrom.out _ X6.out
        refine wp_app (.tmp 21) (.tmp 28) 305 (by rfl) 423 iF _ 3 48 Tryz.underlying305 hFi hF0 hF1 hF2 rfl (by decide) (.slice p6 i c6) i _ (by rfl) Hown6.out (.slice pF (N - (i + 1)) (cv - (i + 1))) (N - (i + 1)) _ (by rfl) hfrom (fun u hu => Hone.out u (List.mem_of_mem_drop hu)) (by unfold maxLen; omega) (by omega) ?_
        clear hfrom
        intro v7 w7 hown7 hgrow7 hloc7
        have X7 := Lib.hid (X6.out.grown hgrow7 X6.out.size Hnew6.out)
        have hnew7 := own_ge (B := w.heap.size) hloc7 Hnew6.out X6.out.size
        obtain ⟨p7, c7, rfl⟩ := OwnR.shape hown7
        have Hend7 := Lib.hid (Hend.out w7 _ X7.out hown7 hnew7)
        clear hgrow7 hloc7 hown7 hnew7
        refine hK.out _ _ trivial (fun _ => ?_)
        clear hK
        try simp only [Act.put, List.setIfInBounds_toArray, List.set_cons_zero, List.set_cons_succ]
        refine Pl [17,18] ?_
        iterate 2 (refine Pc rfl ?_;simp only [Act.put, uA, uB, uC])
        refine Pn ?_
        refine ord_one 19 rfl (by kernel_rfl) (by rfl) (fun K hK => ?_)
        have hc2 := Hc1.out _ X7.out
        have hfz1 := Hfr.out _ X7.out
        go_wp2_with fail
        clear hc2 hfz1
        refine hK.out _ _ trivial (fun _ => ?_)
        clear hK
        try simp only [Act.put, List.setIfInBounds_toArray, List.set_cons_zero, List.set_cons_succ]
        refine wpAnyH_done (by kernel_rfl) ?_ _
        go_wp2_with fail
        go_end0
        exact Hend7.out
      · have hc2 := Hc1.out _ X0.out
        go_wp2_with fail
        clear hc2
        refine hK.out _ _ trivial (fun _ => ?_)
        clear hK
        try simp only [Act.put, List.setIfInBounds_toArray, List.set_cons_zero, List.set_cons_succ]
        refine ord_take 7 (v := ?v30x7) rfl (by kernel_rfl) (by kernel_rfl) (by kernel_rfl) (fun _ _ _ h => h) (by rfl) trivial ?y30x7 ?_
        case y30x7 => (intro w hSw; clear hSw; go_simp; try with_reducible rfl)
        simp only [Act.put, List.setIfInBounds_toArray, List.set_cons_zero, List.set_cons_succ]
        refine ord_one 1 rfl (by kernel_rfl) (by rfl) (fun K hK => ?_)
        go_wp2_with fail
        have X1 := Lib.hid (X0.out.alloc X0.out.size (.cells #[] 423))
        refine hK.out _ _ trivial (fun _ => ?_)
        clear hK
        try simp only [Act.put, List.setIfInBounds_toArray, List.set_cons_zero, List.set_cons_succ]
        refine ord_one 8 rfl (by kernel_rfl) (by rfl) (fun K hK => ?_)
        have hown0 := own_emptyS Wd 423 3
        have hup := Hup.out _ X1.out
        refine wp_app (.tmp 14) (.tmp 20) 305 (by rfl) 423 iF _ 3 48 Tryz.underlying305 hFi hF0 hF1 hF2 rfl (by decide) (.slice (some ⟨Wd.heap.size, 0, none⟩) 0 0) 0 [] (by rfl) hown0 (.slice pv i cv) i _ (by rfl) hup (fun u hu => Hone.out u (List.mem_of_mem_take hu)) (by unfold maxLen; omega) (by omega) ?_
        clear hown0 hup
        intro v6 w6 hown6 hgrow6 hloc6
        have X6 := Lib.hid (X1.out.grown hgrow6 X1.out.size (fun j e => by have := X0.out.size; simp [Value.ownBlock] at e; omega))
        have hnew6 := own_ge (B := w.heap.size) hloc6 (fun k hk => by have := X0.out.size; simp [Value.ownBlock] at hk; omega) X1.out.size
        rw [Nat.zero_add, List.nil_append] at hown6
        obtain ⟨p6, c6, rfl⟩ := OwnR.shape hown6
        have Hown6 := Lib.hid hown6
        have Hnew6 := Lib.hid hnew6
        clear hgrow6 hloc6 hown6 hnew6
        refine hK.out _ _ trivial (fun _ => ?_)
        clear hK
        try simp only [Act.put, List.setIfInBounds_toArray, List.set_cons_zero, List.set_cons_succ]
        refine ord_one 16 rfl (by kernel_rfl) (by rfl) (fun K hK => ?_)
        have hfrom := Hfrom.out _ X6.out
        refine wp_app (.tmp 21) (.tmp 28) 305 (by rfl) 423 iF _ 3 48 Tryz.underlying305 hFi hF0 hF1 hF2 rfl (by decide) (.slice p6 i c6) i _ (by rfl) Hown6.out (.slice pF (N - (i + 1)) (cv - (i + 1))) (N - (i + 1)) _ (by rfl) hfrom (fun u hu => Hone.out u (List.mem_of_mem_drop hu)) (by unfold maxLen; omega) (by omega) ?_
        clear hfrom
        intro v7 w7 hown7 hgrow7 hloc7
        have X7 := Lib.hid (X6.out.grown hgrow7 X6.out.size Hnew6.out)
        have hnew7 := own_ge (B := w.heap.size) hloc7 Hnew6.out X6.out.size
        obtain ⟨p7, c7, rfl⟩ := OwnR.shape hown7
        have Hend7 := Lib.hid (Hend.out w7 _ X7.out hown7 hnew7)
        clear hgrow7 hloc7 hown7 hnew7
        refine hK.out _ _ trivial (fun _ => ?_)
        clear hK
        try simp only [Act.put, List.setIfInBounds_toArray, List.set_cons_zero, List.set_cons_succ]
        refine Pl [17,18] ?_
        iterate 2 (refine Pc rfl ?_;simp only [Act.put, uA, uB, uC])
        refine Pn ?_
        refine ord_one 19 rfl (by kernel_rfl) (by rfl) (fun K hK => ?_)
        have hc2 := Hc1.out _ X7.out
        have hfz1 := Hfr.out _ X7.out
        go_wp2_with fail
        clear hc2 hfz1
        refine hK.out _ _ trivial (fun _ => ?_)
        clear hK
        try simp only [Act.put, List.setIfInBounds_toArray, List.set_cons_zero, List.set_cons_succ]
        refine wpAnyH_done (by kernel_rfl) ?_ _
        go_wp2_with fail
        go_end0
        exact Hend7.out
end
end Go.Proofs.YtogdfkilhpkloaaGreatDoor

namespace Go.Proofs.YtogdfkilhpkloaaGreatDoor
open Go.RowKit Go.Sat Go.Maps

section
variable {w : World} {r : Nat} {v : Value} {L : List RFile} {own : Nat → Prop} {D : DiskM}

set_option maxRecDepth 100000 in
set_option maxHeartbeats 2000000 in
theorem rrem_calls (h : RefIn w r v L own D) (s : ByteArray) (hs : s.size ≤ 9223372036854775807) :
    Calls Tryz.prog 253 #[.pointer (some ⟨r, 0, none⟩), .string s] w (RStep w r own (D.remove [nm s])) := by
  have h1 : RefIn (w.alloc (.cells #[.string s] 9)) r v L own D := h.below ((Below.refl _ _).alloc (Nat.le_refl _) _)
  have hmay := rmay_calls h1 (some ⟨w.heap.size, 0, none⟩) [s] 1 (strs_one w s) (by simp) (by simpa using hs)
  simp only [List.map_cons, List.map_nil] at hmay
  have hE : D.remove [nm s] = D.each1 DiskM.gRemove (nm s) := each_one _ _ _
  rw [hE]
  by_cases hm : D.may [nm s] = 0
  · have hsp := spot_calls h1 s
    rw [h.is] at hsp
    rw [hm] at hmay
    cases hg : Sat.get (nm s) D.files with
    | none =>
      rw [hg] at hsp
      have hR : DiskM.each1 DiskM.gRemove D (nm s) = (D, 7) := by unfold DiskM.each1; rw [if_neg (by rw [hm]; simp), hg]
      rw [hR]
      have Hf := Lib.hid (fun q => rstep_same h (below_names w (.cells #[.string s] 9) q) 7)
      have Hmay := Lib.hid hmay
      have Hsp := Lib.hid hsp
      clear h h1 hmay hsp hm hR hg hE
      go_enter Tryz.func253, Tryz.ntmps253
      go_wp2_with fail
      refine Hmay.out.mono ?_
      rintro e w2 ⟨rfl, rfl⟩
      go_wp2_with fail
      refine Hsp.out.mono ?_
      rintro e w3 ⟨rfl, q, rfl⟩
      go_wp2_with fail
      go_ret
      exact Hf.out q
    | some f =>
      rw [hg] at hsp
      have hR : DiskM.each1 DiskM.gRemove D (nm s) = (DiskM.done { D with files := del (nm s) D.files }, 0) := by unfold DiskM.each1; rw [if_neg (by rw [hm]; simp), hg]; rfl
      rw [hR]
      have Hrm := Lib.hid (fun q => rremove_calls (h.below (below_names w (.cells #[.string s] 9) q)) s)
      have hfz := may_fuse hm
      have Hdid := Lib.hid (show ∀ q e w', RGone ((w.alloc (.cells #[.string s] 9)).drewN q) r own { D with files := del (nm s) D.files } e w' → Calls Tryz.prog 330 #[.pointer (some ⟨r, 0, none⟩)] w' (RStep w r own (DiskM.done { D with files := del (nm s) D.files }, 0)) from fun q e w' hgn => by
        obtain ⟨-, own', v', L', hin, hch, -, hx⟩ := hgn
        have hb := below_names w (.cells #[.string s] 9) q
        refine (rdid_calls hin hfz).mono fun e2 w2 h2 => ?_
        have hc2 : Chg own w w' := chg_below hb (hch.mono fun k _ e => by rw [e]; exact h.or)
        exact rstep_did hc2 (fun k hk => (hx k hk).imp id fun hh => Nat.le_trans hb.size hh) hc2.size h2)
      have Hmay := Lib.hid hmay
      have Hsp := Lib.hid hsp
      clear h h1 hmay hsp hm hR hg hE
      go_enter Tryz.func253, Tryz.ntmps253
      go_wp2_with fail
      refine Hmay.out.mono ?_
      rintro e w2 ⟨rfl, rfl⟩
      go_wp2_with fail
      refine Hsp.out.mono ?_
      rintro e w3 ⟨rfl, q, rfl⟩
      go_wp2_with fail
      refine (Hrm.out q).mono ?_
      intro e w4 h4
      have Hd := Lib.hid (Hdid.out q e w4 h4)
      obtain ⟨rfl, -⟩ := h4
      clear Hrm Hdid
      go_wp2_with fail
      refine Hd.out.mono ?_
      intro e w5 h5
      have HE := Lib.hid h5
      obtain ⟨rfl, -⟩ := h5
      go_wp2_with fail
      go_ret
      exact HE.out
  · have hR : DiskM.each1 DiskM.gRemove D (nm s) = (D, D.may [nm s]) := by unfold DiskM.each1; rw [if_pos hm]
    rw [hR]
    have Hf := Lib.hid (rstep_same h ((Below.refl _ _).alloc (Nat.le_refl _) (.cells #[.string s] 9)) (D.may [nm s]))
    have Hmay := Lib.hid hmay
    generalize D.may [nm s] = m at *
    have hne : ((m : Int) != 0) = true := by simp; omega
    clear h h1 hmay hR hE
    go_enter Tryz.func253, Tryz.ntmps253
    go_wp2_with fail
    refine Hmay.out.mono ?_
    rintro e w2 ⟨rfl, rfl⟩
    go_wp2_with fail
    go_ret
    exact Hf.out
end
end Go.Proofs.YtogdfkilhpkloaaGreatDoor

namespace Go.Proofs.YtogdfkilhpkloaaGreatDoor
open Go.RowKit Go.Sat Go.Maps

theorem put_del_same {α : Type} {L : List (Bs × α)} (h : Srt L) {n : Bs} {f : α} (hg : Sat.get n L = some f) : Sat.put n f (del n L) = L := by
  refine srt_ext (srt_put (srt_del h)) h fun m => ?_
  by_cases e : m = n
  · subst e
    rw [get_put_same (srt_del h), hg]
  · rw [get_put_other (srt_del h) f e, get_del_other h e]

section
variable {w : World} {r : Nat} {v : Value} {L : List RFile} {own : Nat → Prop} {D : DiskM}

set_option maxRecDepth 100000 in
set_option maxHeartbeats 4000000 in
theorem rren_calls (h : RefIn w r v L own D) (o s : ByteArray) (hso : o.size ≤ 9223372036854775807) (hss : s.size ≤ 9223372036854775807) :
    Calls Tryz.prog 379 #[.pointer (some ⟨r, 0, none⟩), .string o, .string s] w (RStep w r own (D.rename (nm o) (nm s))) := by
  have h1 : RefIn (w.alloc (.cells #[.string o, .string s] 9)) r v L own D := h.below ((Below.refl _ _).alloc (Nat.le_refl _) _)
  have hmay := rmay_calls h1 (some ⟨w.heap.size, 0, none⟩) [o, s] 2 (strs_two w o s) (by simp) (by simp; exact ⟨hso, hss⟩)
  simp only [List.map_cons, List.map_nil] at hmay
  by_cases hm : D.may [nm o, nm s] = 0
  · have hsp := spot_calls h1 o
    rw [h.is] at hsp
    rw [hm] at hmay
    cases hg : Sat.get (nm o) D.files with
    | none =>
      rw [hg] at hsp
      have hR : D.rename (nm o) (nm s) = (D, 7) := by unfold DiskM.rename; rw [if_neg (by rw [hm]; simp), hg]
      rw [hR]
      have Hf := Lib.hid (fun q => rstep_same h (below_names w (.cells #[.string o, .string s] 9) q) 7)
      have Hmay := Lib.hid hmay
      have Hsp := Lib.hid hsp
      clear h h1 hmay hsp hm hR hg
      go_enter Tryz.func379, Tryz.ntmps379
      go_wp2_with fail
      refine Hmay.out.mono ?_
      rintro e w2 ⟨rfl, rfl⟩
      go_wp2_with fail
      refine Hsp.out.mono ?_
      rintro e w3 ⟨rfl, q, rfl⟩
      go_wp2_with fail
      go_ret
      exact Hf.out q
    | some f =>
      rw [hg] at hsp
      have hR : D.rename (nm o) (nm s) = (DiskM.done { D with files := Sat.put (nm s) f (del (nm o) D.files) }, 0) := by unfold DiskM.rename; rw [if_neg (by rw [hm]; simp), hg]
      rw [hR]
      have hfz := may_fuse hm
      by_cases hos : nm o = nm s
      · have hb : (o.toList == s.toList) = true := by rw [ByteArray.toList_eq, ByteArray.toList_eq]; exact beq_iff_eq.2 hos
        have hD : ({ D with files := Sat.put (nm s) f (del (nm o) D.files) } : DiskM) = D := by rw [← hos, put_del_same h.ok.srt hg]
        rw [hD]
        have Hdid := Lib.hid (fun q => (rdid_calls (h.below (below_names w (.cells #[.string o, .string s] 9) q)) hfz).mono fun e2 w2 h2 =>
          rstep_did (own := own) (w := w) ((Chg.of_below (below_names w (.cells #[.string o, .string s] 9) q)).mono fun _ _ h => h.elim) (fun _ h => .inl h) (below_names w (.cells #[.string o, .string s] 9) q).size h2)
        have Hmay := Lib.hid hmay
        have Hsp := Lib.hid hsp
        clear h h1 hmay hsp hm hR hg hD hos
        go_enter Tryz.func379, Tryz.ntmps379
        go_wp2_with fail
        refine Hmay.out.mono ?_
        rintro e w2 ⟨rfl, rfl⟩
        go_wp2_with fail
        refine Hsp.out.mono ?_
        rintro e w3 ⟨rfl, q, rfl⟩
        go_wp2_with fail
        refine (Hdid.out q).mono ?_
        intro e w5 h5
        have HE := Lib.hid h5
        obtain ⟨rfl, -⟩ := h5
        go_wp2_with fail
        go_ret
        exact HE.out
      · have hb : (o.toList == s.toList) = false := by
          rw [ByteArray.toList_eq, ByteArray.toList_eq, beq_eq_false_iff_ne]
          exact hos
        obtain ⟨x, hx, hxn, rfl⟩ := h.hit hg
        have hN : spotN (nm o) (L.map RFile.n) < L.length := (List.getElem?_eq_some_iff.1 hx).1
        rcases h.at with h0 | ⟨g, c0, hgv, hlc, -⟩
        · rw [h0] at hN
          simp at hN
        have hgo : v.ownBlock = some g := by rw [hgv]; rfl
        generalize spotN (nm o) (L.map RFile.n) = i at *
        have Hcells := Lib.hid (show ∀ W, Below w.heap.size w W → W.cell? ⟨r, 1, none⟩ = some (.slice (some ⟨g, 0, none⟩) L.length c0) ∧ W.cell? ⟨g, i * 3, none⟩ = some (.string ⟨x.n.toArray⟩) ∧ W.cell? ⟨g, i * 3 + 1, none⟩ = some x.b ∧ W.cell? ⟨g, i * 3 + 2, none⟩ = some (.int .i64 (x.f.lasts : Int)) from fun W hb => by
          have hW := h.below hb
          have hc := hW.core.at hgo hx
          exact ⟨hW.c1.trans (by rw [hgv]), hc.1, hc.2.1, hc.2.2⟩)
        obtain ⟨px, cx, ex, -⟩ := own_slice (h.data x (List.mem_of_getElem? hx))
        rw [ex] at Hcells
        have H := Lib.hid h
        have Hok := Lib.hid (ok_rename h.ok hg (show okN (nm s) = true from List.all_eq_true.1 (may_zero hm).2 (nm s) (by simp)))
        have Hmay := Lib.hid hmay
        have Hsp := Lib.hid hsp
        clear h h1 hmay hsp hm hR hg hlc
        subst hgv
        go_enter Tryz.func379, Tryz.ntmps379
        go_wp2_with fail
        refine Hmay.out.mono ?_
        rintro e w2 ⟨rfl, rfl⟩
        go_wp2_with fail
        refine Hsp.out.mono ?_
        rintro e w3 ⟨rfl, q, rfl⟩
        have HbW := Lib.hid (below_names w (.cells #[.string o, .string s] 9) q)
        obtain ⟨hc1, hc2, hc3, hc4⟩ := Hcells.out _ HbW.out
        generalize (w.alloc (.cells #[.string o, .string s] 9)).drewN q = W at *
        have Hx := Lib.hid hx
        generalize hmx : x.f.data.length = mx at *
        generalize hla : x.f.lasts = la at *
        have Hmx := Lib.hid hmx
        have Hla := Lib.hid hla
        have Hhos := Lib.hid hos
        have Hex := Lib.hid ex
        clear hos hx hmx hla Hcells ex
        go_wp2_with fail
        have XF := Lib.hid (HbW.out.alloc HbW.out.size (.cells #[.string s, .slice px mx cx, .int .i64 (la : Int)] 423))
        have hfb0 : (W.alloc (.cells #[.string s, .slice px mx cx, .int .i64 (la : Int)] 423)).heap[W.heap.size]? = some (.cells #[.string s, .slice px mx cx, .int .i64 (la : Int)] 423 (0, 0)) := new_block W _
        have hfr0 : W.heap.size ≠ r := fun e => by have h1 := H.out.olt r H.out.or; have h2 := HbW.out.size; omega
        have hfl0 : W.heap.size < (W.alloc (.cells #[.string s, .slice px mx cx, .int .i64 (la : Int)] 423)).heap.size := by simp
        have Hfb0 := Lib.hid (And.intro hfb0 (And.intro hfr0 hfl0))
        clear hfb0 hfr0 hfl0
        generalize W.heap.size = fb at *
        have hinF := H.out.below XF.out
        generalize W.alloc (.cells #[.string s, .slice px mx cx, .int .i64 (la : Int)] 423) = Wf at *
        have Hrm1 := Lib.hid (rremove_calls hinF o)
        clear hinF hc1 hc2 hc3 hc4
        refine Hrm1.out.mono ?_
        rintro e w4 ⟨rfl, own4, v4, L4, hin4, hch4, hsub4, hx4⟩
        have Hr4 := Lib.hid (And.intro hch4 (And.intro hsub4 hx4))
        have Hrm2 := Lib.hid (rremove_calls hin4 s)
        clear hin4 hch4 hsub4 hx4 Hrm1
        go_wp2_with fail
        refine Hrm2.out.mono ?_
        rintro e w5 ⟨rfl, own5, v5, L5, hin5, hch5, hsub5, hx5⟩
        have hin5 : RefIn w5 r v5 L5 own5 { D with files := del (nm s) (del (nm o) D.files) } := hin5
        have hsp5 := spot_calls hin5 s
        have hg5 : Sat.get (nm s) (del (nm s) (del (nm o) D.files)) = none := get_del_same _ _
        rw [hin5.is, show Sat.get (nm s) ({ D with files := del (nm s) (del (nm o) D.files) } : DiskM).files = none from hg5] at hsp5
        have Hin5 := Lib.hid hin5
        have Hr5 := Lib.hid (And.intro hch5 (And.intro hsub5 hx5))
        have Hsp5 := Lib.hid hsp5
        have Hg5 := Lib.hid hg5
        clear hin5 hch5 hsub5 hx5 Hrm2 hsp5 hg5
        go_wp2_with fail
        refine Hsp5.out.mono ?_
        rintro e w6 ⟨rfl, q6, rfl⟩
        have hins := ins_at (nm s) x.f Hin5.out.ok.srt Hg5.out
        have hle : spotN (nm s) (L5.map RFile.n) ≤ L5.length := by have := spotN_le (nm s) (L5.map RFile.n); rwa [List.length_map] at this
        rw [← Hin5.out.names, Hin5.out.files] at hins
        generalize spotN (nm s) (L5.map RFile.n) = j at *
        have hbq : Below w5.heap.size w5 (w5.drewN q6) := ⟨rfl, rfl, rfl, Nat.le_refl _, fun _ _ => rfl⟩
        have Hinq := Lib.hid (Hin5.out.below hbq)
        obtain ⟨pv, cv, hgv⟩ := Hin5.out.slice
        have hNc : L5.length ≤ cv := by
          rcases Hin5.out.at with h0 | ⟨g, c0, e, hc, -⟩
          · rw [h0]; exact Nat.zero_le _
          · rw [hgv] at e; cases e; exact hc
        have hfit := Hin5.out.fit
        -- the new file's block and its row are as they were
        have hfq : (w5.drewN q6).heap[fb]? = some (.cells #[.string s, .slice px mx cx, .int .i64 (la : Int)] 423 (0, 0)) := by
          have h4 := Hr4.out.1.block fb Hfb0.out.2.2 Hfb0.out.2.1
          have h5 := Hr5.out.1.block fb (Nat.lt_of_lt_of_le Hfb0.out.2.2 Hr4.out.1.size) Hfb0.out.2.1
          exact h5.trans (h4.trans Hfb0.out.1)
        have hrow : OwnB (w5.drewN q6) 5 (.slice px mx cx) x.f.data ∧ ∀ k, (Value.slice px mx cx).ownBlock = some k → own5 k ∧ k ≠ r := by
          have hxm := List.mem_of_getElem? Hx.out
          have hinF := H.out.below XF.out
          have hob := H.out.ob x hxm
          have hda := hinF.data x hxm
          rw [Hex.out] at hob hda
          refine ⟨OwnR.keep hda fun k hk => ?_, fun k hk => ⟨Hr5.out.2.1 k (Hr4.out.2.1 k (hob k hk).1), (hob k hk).2.1⟩⟩
          have hk1 := hinF.olt k (hob k hk).1
          have h4 := Hr4.out.1.block k hk1 (hob k hk).2.1
          have h5 := Hr5.out.1.block k (Nat.lt_of_lt_of_le hk1 Hr4.out.1.size) (hob k hk).2.1
          exact h5.trans h4
        have hchq : Chg (fun k => k = r) w (w5.drewN q6) := by
          have h4 := chg_below (own := fun k => k = r) XF.out Hr4.out.1
          have h5 := h4.trans Hr5.out.1 fun _ _ h => h
          exact h5.trans ((Chg.of_below hbq).mono (T := fun _ => False) fun _ _ h => h) fun _ _ h => h.elim
        have hxq : ∀ k, own5 k → own k ∨ w.heap.size ≤ k := fun k hk => by
          rcases Hr5.out.2.2 k hk with h | h
          · rcases Hr4.out.2.2 k h with h | h
            · exact .inl h
            · exact .inr (Nat.le_trans XF.out.size h)
          · exact .inr (Nat.le_trans (Nat.le_trans XF.out.size Hr4.out.1.size) h)
        have Hq := Lib.hid (And.intro hfq (And.intro hrow (And.intro hchq hxq)))
        have Hins := Lib.hid hins
        clear hfq hrow hchq hxq hins Hr4 Hr5 Hin5 Hsp5 hbq XF
        generalize w5.drewN q6 = Wq at *
        subst hgv
        have hfbl : fb < Wq.heap.size := lt_of_block Hq.out.1
        have Hfb := Lib.hid (show ∀ W', Below Wq.heap.size Wq W' → W'.cell? ⟨fb, 0, none⟩ = some (.string s) ∧ W'.cell? ⟨fb, 1, none⟩ = some (.slice px mx cx) ∧ W'.cell? ⟨fb, 2, none⟩ = some (.int .i64 (la : Int)) from fun W' hb =>
          ⟨(hb.cell (p := ⟨fb, 0, none⟩) hfbl).trans (cell_of Hq.out.1 rfl), (hb.cell (p := ⟨fb, 1, none⟩) hfbl).trans (cell_of Hq.out.1 rfl), (hb.cell (p := ⟨fb, 2, none⟩) hfbl).trans (cell_of Hq.out.1 rfl)⟩)
        have Hc1 := Lib.hid (show ∀ W', Below Wq.heap.size Wq W' → W'.cell? ⟨r, 1, none⟩ = some (.slice pv L5.length cv) from fun W' hb => (Hinq.out.below hb).c1)
        have Hfr := Lib.hid (show ∀ W', Below Wq.heap.size Wq W' → W'.frozen? ⟨r, 1, none⟩ = false from fun W' hb => frozen_of (Hinq.out.below hb).cells 1)
        have Hrow := Lib.hid (show ∀ W', Below Wq.heap.size Wq W' → OwnR W' 423 3 (.slice pv L5.length cv) L5.length (L5.flatMap RFile.cells) from fun W' hb => (Hinq.out.below hb).row)
        have Hone := Lib.hid (cells_one Hinq.out.core.one)
        obtain ⟨iF, hFi, hF0, hF1, hF2⟩ := info_parts (show (Tryz.prog.info? 423).map (fun i => (i.zero, i.size, i.bytes)) = some (some (.agg #[.string ⟨#[]⟩, .slice none 0 0, .int .i64 0]), 3, 48) by kernel_rfl)
        have hs1 : ∀ W, (Instr.slice 305 (.slice pv L5.length cv) none (some (.int .i64 (j : Int))) none).run Tryz.prog W = .ok (.slice pv j cv) W := fun W => run_upto W Tryz.underlying305 hFi pv _ cv j (by omega)
        have hs2 : ∀ W, (Instr.slice 305 (.slice pv L5.length cv) (some (.int .i64 (j : Int))) none none).run Tryz.prog W = .ok (.slice (if cv - j = 0 then pv else pv.map fun x => x.add (j * 3)) (L5.length - j) (cv - j)) W := fun W => by
          have := run_from_any (P := Tryz.prog) W Tryz.underlying305 hFi pv L5.length cv j hle hNc
          rw [hF1] at this
          exact this
        have Hfrom := Lib.hid (show ∀ W', Below Wq.heap.size Wq W' → Holds W' 3 (.slice (if cv - j = 0 then pv else pv.map fun x => x.add (j * 3)) (L5.length - j) (cv - j)) (L5.length - j) ((L5.flatMap RFile.cells).drop (j * 3)) from fun W' hb => OwnR.cut_from (Hrow.out W' hb) hle)
        generalize hpF : (if cv - j = 0 then pv else pv.map fun x => x.add (j * 3)) = pF at *
        have X1 := Lib.hid ((Below.refl Wq.heap.size Wq).alloc (Nat.le_refl _) (.cells #[] 423))
        have hc1a := Hc1.out _ X1.out
        have Hup := Lib.hid (show Holds (Wq.alloc (.cells #[] 423)) 3 (.slice pv j cv) j ((L5.flatMap RFile.cells).take (j * 3)) from Holds.upto (OwnR.holds (Hrow.out _ X1.out)) hle cv)
        clear hpF
        generalize hN5 : L5.length = N at *
        have HN := Lib.hid hN5
        clear hN5
        go_wp2_with (first | (at_builtin; refine wpList_app (Wq.alloc (.cells #[] 423)) rfl (.tmp 56) (.tmp 62) 305 rfl 423 iF _ 3 48 Tryz.underlying305 hFi hF0 hF1 hF2 rfl (by decide) (.slice (some ⟨Wq.heap.size, 0, none⟩) 0 0) 0 [] rfl (own_emptyS Wq _ 3) (.slice pv j cv) j _ rfl Hup.out (fun u hu => Hone.out u (List.mem_of_mem_take hu)) (by unfold maxLen; omega) (by omega) ?_; intro v12 w12 hown12 hgrow12 hloc12; rw [Nat.zero_add, List.nil_append] at hown12; have hX := X1.out.grown hgrow12 X1.out.size (fun j e => by simp [Value.ownBlock] at e; omega); have hnew := own_ge (B := Wq.heap.size) hloc12 (fun k hk => by simp [Value.ownBlock] at hk; omega) X1.out.size; obtain ⟨p12, c12, rfl⟩ := OwnR.shape hown12; have X12 := Lib.hid (And.intro hX (And.intro hown12 hnew)); obtain ⟨hf1, hf2, hf3⟩ := Hfb.out _ X12.out.1; clear hown12 hgrow12 hloc12 hX hnew hc1a) | (at_builtin; refine wpList_app (w12.alloc (.cells #[.string s, .slice px mx cx, .int .i64 (la : Int)] 423)) rfl (.tmp 64) (.tmp 66) 305 rfl 423 iF _ 3 48 Tryz.underlying305 hFi hF0 hF1 hF2 rfl (by decide) (.slice p12 j c12) j _ rfl (OwnR.keep X12.out.2.1 fun j hj => alloc_was w12 _ (OwnR.lt X12.out.2.1 hj)) (.slice (some ⟨w12.heap.size, 0, none⟩) 1 1) 1 [.string s, .slice px mx cx, .int .i64 (la : Int)] rfl (holds_lit w12 #[.string s, .slice px mx cx, .int .i64 (la : Int)] _ 3 1 1 rfl rfl _ _) (fun u hu => by simp at hu; rcases hu with rfl | rfl | rfl <;> rfl) (by unfold maxLen; omega) (by omega) ?_; intro v13 w13 hown13 hgrow13 hloc13; have hXa := X12.out.1.alloc X12.out.1.size (.cells #[.string s, .slice px mx cx, .int .i64 (la : Int)] 423); have hX := hXa.grown hgrow13 hXa.size (fun j hj => X12.out.2.2 j hj); have hnew := own_ge (B := Wq.heap.size) hloc13 X12.out.2.2 hXa.size; obtain ⟨p13, c13, rfl⟩ := OwnR.shape hown13; have X13 := Lib.hid (And.intro hX (And.intro hown13 hnew)); have hc1b := Hc1.out _ X13.out.1; clear hown13 hgrow13 hloc13 hX hnew hXa hf1 hf2 hf3) | (at_builtin; refine wpList_app w13 rfl (.tmp 69) (.tmp 75) 305 rfl 423 iF _ 3 48 Tryz.underlying305 hFi hF0 hF1 hF2 rfl (by decide) (.slice p13 (j + 1) c13) (j + 1) _ rfl X13.out.2.1 (.slice pF (N - j) (cv - j)) (N - j) _ rfl (Hfrom.out w13 X13.out.1) (fun u hu => Hone.out u (List.mem_of_mem_drop hu)) (by unfold maxLen; omega) (by omega) ?_; intro v14 w14 hown14 hgrow14 hloc14; have hX := X13.out.1.grown hgrow14 X13.out.1.size (fun j hj => X13.out.2.2 j hj); have hnew := own_ge (B := Wq.heap.size) hloc14 X13.out.2.2 X13.out.1.size; obtain ⟨p14, c14, rfl⟩ := OwnR.shape hown14; have X14 := Lib.hid (And.intro hX (And.intro hown14 hnew)); have hc1c := Hc1.out _ X14.out.1; have hfrc := Hfr.out _ X14.out.1; clear hown14 hgrow14 hloc14 hX hnew hc1b))
        have hs14 := X14.out.1
        have hcore0 : RefCore w14 r (.slice pv N cv) L5 own5 D.room D.fuse := (Hinq.out.below hs14).core
        have es : Value.string s = encStr (nm s) := by rw [enc_str]; simp [nm]
        have hlen' : (L5.take j ++ (⟨nm s, .slice px mx cx, x.f⟩ : RFile) :: L5.drop j).length = j + 1 + (N - j) := by
          rw [List.length_append, List.length_take, List.length_cons, List.length_drop, HN.out]
          omega
        have hrow' : OwnR w14 423 3 (.slice p14 (j + 1 + (N - j)) c14) (L5.take j ++ (⟨nm s, .slice px mx cx, x.f⟩ : RFile) :: L5.drop j).length ((L5.take j ++ (⟨nm s, .slice px mx cx, x.f⟩ : RFile) :: L5.drop j).flatMap RFile.cells) := by
          rw [hlen', List.flatMap_append, List.flatMap_cons, cells_take, cells_drop, ← List.append_assoc]
          show OwnR w14 _ 3 _ _ (((L5.flatMap RFile.cells).take (j * 3) ++ [encStr (nm s), .slice px mx cx, .int .i64 (x.f.lasts : Int)]) ++ _)
          rw [← es, Hla.out]
          exact X14.out.2.1
        have hfresh : ∀ k, (Value.slice p14 (j + 1 + (N - j)) c14).ownBlock = some k → ¬ own5 k := fun k hk ho => by
          have h1 := X14.out.2.2 k hk
          have h2 := Hinq.out.olt k ho
          omega
        have hcore := hcore0.relist hrow' (fun y hy => by
          rcases List.mem_append.1 hy with hy | hy
          · exact .inl (List.mem_of_mem_take hy)
          · rcases List.mem_cons.1 hy with rfl | hy
            · exact .inr ⟨OwnR.keep Hq.out.2.1.1 fun k hk => hs14.block k (OwnR.lt Hq.out.2.1.1 hk), Hq.out.2.1.2⟩
            · exact .inl (List.mem_of_mem_drop hy)) hfresh
        have hF : Sat.put (nm s) x.f (del (nm o) D.files) = (L5.take j ++ (⟨nm s, .slice px mx cx, x.f⟩ : RFile) :: L5.drop j).map RFile.key := by
          have e1 : Sat.put (nm s) x.f (del (nm o) D.files) = ins (nm s, x.f) (del (nm s) (del (nm o) D.files)) := rfl
          have e2 : del (nm s) (del (nm o) D.files) = L5.map RFile.key := Hinq.out.files
          rw [e1, e2, Hins.out, List.map_append, List.map_cons, List.map_take, List.map_drop]
          rfl
        have hfin : RefIn (w14.setCell ⟨r, 1, none⟩ (.slice p14 (j + 1 + (N - j)) c14)) r (.slice p14 (j + 1 + (N - j)) c14) _ _ { D with files := Sat.put (nm s) x.f (del (nm o) D.files) } := hcore.full rfl rfl hF Hok.out
        have hc14 : Chg (fun k => k = r) w (w14.setCell ⟨r, 1, none⟩ (.slice p14 (j + 1 + (N - j)) c14)) :=
          (Hq.out.2.2.1.trans ((Chg.of_below hs14).mono (T := fun _ => False) fun _ _ h => h) fun _ _ h => h.elim).trans (chg_own (own := fun k => k = r) (w := w14) (a := ⟨r, 1, none⟩) rfl) fun _ _ h => h
        have hch14 : Chg own w (w14.setCell ⟨r, 1, none⟩ (.slice p14 (j + 1 + (N - j)) c14)) := hc14.mono fun k _ e => by rw [e]; exact H.out.or
        have hsz := Hq.out.2.2.1.size
        have hext : ∀ k, (own5 k ∨ (Value.slice p14 (j + 1 + (N - j)) c14).ownBlock = some k) → own k ∨ w.heap.size ≤ k := fun k hk => by
          rcases hk with hk | hk
          · exact Hq.out.2.2.2 k hk
          · exact .inr (Nat.le_trans hsz (X14.out.2.2 k hk))
        have Hdid := Lib.hid ((rdid_calls hfin hfz).mono fun e2 w2 h2 => rstep_did hch14 hext hch14.size h2)
        clear hs14 hcore0 es hlen' hrow' hfresh hcore hF hfin hc14 hch14 hsz hext
        refine Hdid.out.mono ?_
        intro e w15 h15
        have HE := Lib.hid h15
        obtain ⟨rfl, -⟩ := h15
        go_wp2_with fail
        go_ret
        exact HE.out
  · have hR : D.rename (nm o) (nm s) = (D, D.may [nm o, nm s]) := by unfold DiskM.rename; rw [if_pos hm]
    rw [hR]
    have Hf := Lib.hid (rstep_same h ((Below.refl _ _).alloc (Nat.le_refl _) (.cells #[.string o, .string s] 9)) (D.may [nm o, nm s]))
    have Hmay := Lib.hid hmay
    generalize D.may [nm o, nm s] = m at *
    have hne : ((m : Int) != 0) = true := by simp; omega
    clear h h1 hmay hR
    go_enter Tryz.func379, Tryz.ntmps379
    go_wp2_with fail
    refine Hmay.out.mono ?_
    rintro e w2 ⟨rfl, rfl⟩
    go_wp2_with fail
    go_ret
    exact Hf.out
end
end Go.Proofs.YtogdfkilhpkloaaGreatDoor

namespace Go.Proofs.YtogdfkilhpkloaaGreatDoor
open Go.RowKit Go.Sat Go.Maps

section
variable {w : World} {r : Nat} {v : Value} {L : List RFile} {own : Nat → Prop} {D : DiskM}

theorem RefCore.left {room : Nat} {fuse : Option Nat} (h : RefCore w r v L own room fuse) (f : Option Nat) : RefCore (w.setCell ⟨r, 2, none⟩ (.int .i64 (leftOf f))) r v L own room f where
  cells := set_block h.cells 2 _
  row := h.row.keep fun k hk => set_other _ (h.ov k hk).2
  data := fun x hx => OwnR.keep (h.data x hx) fun k hk => set_other _ (h.ob x hx k hk).2.1
  or := h.or
  ov := h.ov
  ob := h.ob
  olt := fun k hk => by
    have := h.olt k hk
    simpa [World.setCell] using this

end
end Go.Proofs.YtogdfkilhpkloaaGreatDoor

namespace Go.Proofs.YtogdfkilhpkloaaGreatDoor
open Go.RowKit Go.Sat Go.Maps

section
variable {w : World} {r : Nat} {v : Value} {L : List RFile} {own : Nat → Prop} {D : DiskM}

/-- Behind k rounds: the copy so far. -/
structure RCopy (w W : World) (r2 : Nat) (v2 : Value) (L : List RFile) (D : DiskM) (k : Nat) (M : List RFile) (own2 : Nat → Prop) : Prop where
  core : RefCore W r2 v2 M own2 D.room none
  keys : M.map RFile.key = (L.take k).map RFile.key
  new : ∀ j, own2 j → w.heap.size ≤ j
  bel : Below w.heap.size w W

theorem RCopy.len {W : World} {r2 : Nat} {v2 : Value} {k : Nat} {M : List RFile} {own2 : Nat → Prop} (h : RCopy w W r2 v2 L D k M own2) (hk : k ≤ L.length) : M.length = k := by
  have := congrArg List.length h.keys
  rw [List.length_map, List.length_map, List.length_take, Nat.min_eq_left hk] at this
  exact this

end
end Go.Proofs.YtogdfkilhpkloaaGreatDoor

namespace Go.Proofs.YtogdfkilhpkloaaGreatDoor
open Go.RowKit Go.Sat Go.Maps

/-- Both lie in what is new since w; neither has what is the other's. -/
def Pair (w w1 : World) (d : Nat) (D : DiskM) (r : Nat) (R : DiskM) : Prop := ∃ own v L, St w w1 d D own ∧ RefIn w1 r v L own R ∧ ∀ k, own k → w.heap.size ≤ k

section
variable {w w1 : World} {d : Nat} {D : DiskM} {r : Nat} {R : DiskM}

theorem Pair.bel (h : Pair w w1 d D r R) : Below w.heap.size w w1 := let ⟨_, _, _, hS, _, _⟩ := h; hS.below
theorem Pair.okD (h : Pair w w1 d D r R) : D.OK := let ⟨_, _, _, hS, _, _⟩ := h; hS.ok
theorem Pair.next (h : Pair w w1 d D r R) {w2 : World} (hb : Below w1.heap.size w1 w2) : Pair w w2 d D r R := by
  obtain ⟨own, v, L, hS, hR, hn⟩ := h
  exact ⟨own, v, L, hS.next hb, hR.below hb, hn⟩
theorem Pair.alloc (h : Pair w w1 d D r R) (o : Obj) : Pair w (w1.alloc o) d D r R := h.next ((Below.refl _ _).alloc (Nat.le_refl _) o)
theorem Pair.drewN (h : Pair w w1 d D r R) (n : Nat) : Pair w (w1.drewN n) d D r R := h.next ⟨rfl, rfl, rfl, Nat.le_refl _, fun _ _ => rfl⟩

theorem RefIn.same {w2 : World} {own : Nat → Prop} {v : Value} {L : List RFile} (h : RefIn w1 r v L own R) (hS : St w w2 d D own) (hs : Same own w1 w2) : RefIn w2 r v L own R where
  cells := (hs r h.or).trans h.cells
  row := h.row.keep fun k hk => hs k (h.ov k hk).1
  files := h.files
  data := fun x hx => OwnR.keep (h.data x hx) fun k hk => hs k (h.ob x hx k hk).1
  or := h.or
  ov := h.ov
  ob := h.ob
  olt := fun _ hk => hS.flt hk
  ok := h.ok

end
end Go.Proofs.YtogdfkilhpkloaaGreatDoor

namespace Go.Proofs.YtogdfkilhpkloaaGreatDoor
open Go.RowKit Go.Sat Go.Maps

section
variable {w : World} {r : Nat} {v : Value} {L : List RFile} {own : Nat → Prop} {D : DiskM}

theorem rhas_calls (h : RefIn w r v L own D) (s : ByteArray) :
    Calls Tryz.prog 378 #[.pointer (some ⟨r, 0, none⟩), .string s] w fun e w' => e = .returned (.bool (Sat.get (nm s) D.files).isSome) ∧ Below w.heap.size w w' := by
  have H := Lib.hid (rread_calls h s)
  clear h
  cases hg : Sat.get (nm s) D.files with
  | none =>
    rw [hg] at H
    go_enter Tryz.func378, Tryz.ntmps378
    go_wp2_with fail
    refine H.out.mono ?_
    rintro e w' ⟨v, rfl, -, -, hb⟩
    have Hf := Lib.hid hb
    clear hb
    go_wp2_with fail
    go_ret
    exact ⟨rfl, Hf.out⟩
  | some f =>
    rw [hg] at H
    go_enter Tryz.func378, Tryz.ntmps378
    go_wp2_with fail
    refine H.out.mono ?_
    rintro e w' ⟨v, rfl, -, -, hb⟩
    have Hf := Lib.hid hb
    clear hb
    go_wp2_with fail
    go_ret
    exact ⟨rfl, Hf.out⟩

def RGotL (w : World) (o : Option FileM) (e : Ending) (w' : World) : Prop :=
  ∃ v, e = .returned (.tuple #[v, .int .i64 (loadE o : Int)]) ∧ OwnB w' 5 v (loadB o) ∧ (∀ k, v.ownBlock = some k → w.heap.size ≤ k) ∧ Below w.heap.size w w'

theorem rload_calls (h : RefIn w r v L own D) (s : ByteArray) :
    Calls Tryz.prog 331 #[.pointer (some ⟨r, 0, none⟩), .string s] w (RGotL w (Sat.get (nm s) D.files)) := by
  have hln := data_len h.ok (nm s)
  have H := Lib.hid (rread_calls h s)
  clear h
  cases hg : Sat.get (nm s) D.files with
  | none =>
    rw [hg] at H
    clear hln
    go_enter Tryz.func331, Tryz.ntmps331
    go_wp2_with fail
    refine H.out.mono ?_
    rintro e w2 ⟨v, rfl, -, -, hb⟩
    have Hf := Lib.hid (show RGotL w none (.returned (.tuple #[.slice none 0 0, .int .i64 7])) w2 from ⟨.slice none 0 0, by rw [loadE_none]; rfl, by rw [loadB_none]; exact OwnR.nil _ _ _, fun k hk => (by cases hk), hb⟩)
    clear hb
    go_wp2_with fail
    go_ret2
    exact Hf.out
  | some f =>
    rw [hg] at H hln
    go_enter Tryz.func331, Tryz.ntmps331
    go_wp2_with fail
    refine H.out.mono ?_
    rintro e w2 ⟨v, rfl, hv, -, hb⟩
    obtain ⟨p, c, rfl, hnc⟩ := own_slice hv
    have H1 := Lib.hid (rone_calls hv.has hnc (by omega))
    have Hb := Lib.hid hb
    have hE := loadE_some f
    have hB := loadB_some f
    generalize dataOf (some f) = b at *
    generalize hN : b.length = N at *
    clear hv hb hnc hln
    go_wp2_with fail
    refine H1.out.mono ?_
    rintro e w3 ⟨v, rfl, hv, hn, hb3⟩
    have hb4 := Hb.out.trans (hb3.mono Hb.out.size)
    by_cases he : oneE b = 0
    · have Hf := Lib.hid (show RGotL w (some f) (.returned (.tuple #[v, .int .i64 0])) w3 from ⟨v, by rw [hE, if_pos he]; rfl, by rw [hB]; exact hv, fun k hk => Nat.le_trans Hb.out.size (hn k hk), hb4⟩)
      rw [he]
      clear hv hn hb3 hb4
      go_wp2_with fail
      go_ret2
      exact Hf.out
    · have Hf := Lib.hid (show RGotL w (some f) (.returned (.tuple #[.slice none 0 0, .int .i64 3])) w3 from ⟨.slice none 0 0, by rw [hE, if_neg he]; rfl, by rw [hB]; unfold oneB; rw [if_neg he]; exact OwnR.nil _ _ _, fun k hk => (by cases hk), hb4⟩)
      have hne : ((oneE b : Int) != 0) = true := by simp; omega
      generalize oneE b = E at *
      clear hv hn hb3 hb4
      go_wp2_with fail
      go_ret2
      exact Hf.out
end
end Go.Proofs.YtogdfkilhpkloaaGreatDoor

namespace Go.Proofs.YtogdfkilhpkloaaGreatDoor
open Go.RowKit Go.Sat Go.Maps

def RSt (w0 w1 : World) (r : Nat) (own0 : Nat → Prop) (D : DiskM) (F : Nat → Prop) : Prop :=
  ∃ own v L, RefIn w1 r v L own D ∧ Chg own0 w0 w1 ∧ (∀ k, own k → (own0 k ∨ w0.heap.size ≤ k) ∧ ¬ F k) ∧ ∀ k, F k → k < w1.heap.size

section
variable {w w0 w1 w2 : World} {r : Nat} {v : Value} {L : List RFile} {own own0 : Nat → Prop} {D : DiskM} {F : Nat → Prop}

theorem RSt.start (h : RefIn w r v L own D) (hb : Below w.heap.size w w1) (hF : ∀ k, F k → ¬ own k ∧ k < w1.heap.size) : RSt w w1 r own D F :=
  ⟨own, v, L, h.below hb, (Chg.of_below hb).mono fun _ _ h => h.elim, fun k hk => ⟨.inl hk, fun hf => (hF k hf).1 hk⟩, fun k hk => (hF k hk).2⟩

theorem RSt.ok (h : RSt w0 w1 r own0 D F) : D.OK := let ⟨_, _, _, hR, _⟩ := h; hR.ok
theorem RSt.flt (h : RSt w0 w1 r own0 D F) {k : Nat} (hk : F k) : k < w1.heap.size := let ⟨_, _, _, _, _, _, hF⟩ := h; hF k hk

theorem RSt.next (h : RSt w0 w1 r own0 D F) (hb : Below w1.heap.size w1 w2) : RSt w0 w2 r own0 D F := by
  obtain ⟨own, v, L, hR, hc, hx, hF⟩ := h
  exact ⟨own, v, L, hR.below hb, hc.trans (Chg.of_below hb) fun _ _ h => h.elim, hx, fun k hk => Nat.lt_of_lt_of_le (hF k hk) hb.size⟩

theorem RSt.same (h : RSt w0 w1 r own0 D F) (hb : Below w1.heap.size w1 w2) : Same F w1 w2 := fun _ hk => hb.block _ (h.flt hk)

/-- Something new is set apart too. -/
theorem RSt.apart {F' : Nat → Prop} (h : RSt w0 w1 r own0 D F) (hb : Below w1.heap.size w1 w2) (hF' : ∀ k, F' k → F k ∨ (w1.heap.size ≤ k ∧ k < w2.heap.size)) : RSt w0 w2 r own0 D F' := by
  obtain ⟨own, v, L, hR, hc, hx, hF⟩ := h
  refine ⟨own, v, L, hR.below hb, hc.trans (Chg.of_below hb) fun _ _ h => h.elim, fun k hk => ⟨(hx k hk).1, fun hf => ?_⟩, fun k hk => ?_⟩
  · rcases hF' k hf with h | h
    · exact (hx k hk).2 h
    · have := hR.olt k hk
      omega
  · rcases hF' k hk with h | h
    · exact Nat.lt_of_lt_of_le (hF k h) hb.size
    · exact h.2

theorem rst_step {P : Program} {f : FuncId} {args : Array Value} {Re : DiskM × Nat} (h : RSt w0 w1 r own0 D F) (hx : ∀ own v L, RefIn w1 r v L own D → (∀ k, own k → ¬ F k) → Calls P f args w1 (RStep w1 r own Re)) :
    Calls P f args w1 fun e w' => e = .returned (.int .i64 (Re.2 : Int)) ∧ RSt w0 w' r own0 Re.1 F ∧ Same F w1 w' := by
  obtain ⟨own, v, L, hR, hc, hown, hF⟩ := h
  refine (hx own v L hR fun k hk => (hown k hk).2).mono ?_
  rintro e w' ⟨rfl, own', ⟨v', L', hR'⟩, hc', he⟩
  refine ⟨rfl, ⟨own', v', L', hR', hc.trans hc' fun i hi ho => ?_, fun k hk => ?_, fun k hk => Nat.lt_of_lt_of_le (hF k hk) hc'.size⟩, fun k hk => hc'.block k (hF k hk) fun ho => (hown k ho).2 hk⟩
  · rcases (hown i ho).1 with h | h
    · exact h
    · omega
  · rcases he k hk with h | h
    · exact hown k h
    · exact ⟨.inr (Nat.le_trans hc.size h), fun hf => by have := hF k hf; omega⟩

theorem RSt.stop (h : RSt w0 w1 r own0 D F) (k : Nat) : RStep w0 r own0 (D, k) (.returned (.int .i64 (k : Int))) w1 := by
  obtain ⟨own, v, L, hR, hc, hx, -⟩ := h
  exact ⟨rfl, own, ⟨v, L, hR⟩, hc, fun k hk => (hx k hk).1⟩

theorem rst_has (h : RSt w0 w1 r own0 D F) (s : ByteArray) :
    Calls Tryz.prog 378 #[.pointer (some ⟨r, 0, none⟩), .string s] w1 fun e w' => e = .returned (.bool (Sat.get (nm s) D.files).isSome) ∧ RSt w0 w' r own0 D F ∧ Same F w1 w' := by
  have h0 := h
  obtain ⟨own, v, L, hR, -⟩ := h
  exact (rhas_calls hR s).mono fun e w' ⟨he, hb⟩ => ⟨he, h0.next hb, h0.same hb⟩

theorem rstep_below {w' : World} {R : DiskM × Nat} {e : Ending} {w'' : World} (hb : Below w.heap.size w w') (h : RStep w' r own R e w'') : RStep w r own R e w'' := by
  obtain ⟨he, own', hR, hc, hx⟩ := h
  exact ⟨he, own', hR, chg_below hb hc, fun k hk => (hx k hk).imp id fun h => Nat.le_trans hb.size h⟩
end
end Go.Proofs.YtogdfkilhpkloaaGreatDoor
