/- A ledger in memory; the contracts of ledger's has, removes, imageName, logName. A ledger of a law's own, its disk, and blocks (F) that neither has. The document's disk (satrapyref3) in memory. The document's disk: may, did, Used, Fuse, New, Read; where names stand. DiskNames: what the disk keeps (a plain law). DiskNames: the walk. The document's disk: Used, Read, List. The contract of satrapylaw4.known: it is true. KeepApart: what the disk keeps (a plain law). The document's disk: a cell of a file is written; Sync. -/
import Derived.Sort.Walk0
import Derived.StillTailTactics
import Derived.Test.YtapfnehdgailmaaGreatEA
import Derived.Test.YtapfnehdgailmaaGreatEE
import Derived.Test.YtapfnehdgailmaaGreatEF
set_option maxRecDepth 100000
set_option maxHeartbeats 64000000
namespace Go.Proofs.YtapfnehdgailmaaGreat
open Go.RowKit Go.Sat Go.Maps
/-! ### A ledger in memory -/
structure zBP (w:World) (l d:Nat) (pre:ByteArray) (own:Nat→Prop) (M:LedM) (dv ev:Value) (vs:List Value):Prop where
 cells:w.heap[l]?=some (.cells #[.pointer (some ⟨d,0,none⟩),.string pre,.int .i64 (M.base:Int),dv,ev,.bool M.dead] 183 (0,0))
 data:OwnB w 5 dv M.data
 row:OwnR w 22 1 ev M.entries.length vs
 rows:∀ (i:Nat) u b,vs[i]?=some u→M.entries[i]?=some b→OwnB w 5 u b
 ol:own l
 od:∀ k,dv.ownBlock=some k→own k∧k≠l∧ev.ownBlock≠some k
 oe:∀ k,ev.ownBlock=some k→own k∧k≠l
 ov:∀ u ∈ vs,∀ k,u.ownBlock=some k→own k∧k≠l∧ev.ownBlock≠some k
 olt:∀ k,own k→k < w.heap.size
 last:M.last≤1099511627776
 psz:1≤pre.size∧pre.size≤20
 big:M.data.length≤1073741824∧∀ b ∈ M.entries,b.length≤1073741824
section
variable {w w':World} {l d:Nat} {pre:ByteArray} {own:Nat→Prop} {M:LedM} {dv ev:Value} {vs:List Value}
theorem zBP.len (h:zBP w l d pre own M dv ev vs):vs.length=M.entries.length:=by have:=h.row.1;omega
theorem zBP.keep (h:zBP w l d pre own M dv ev vs) (hs:∀ k,own k→w'.heap[k]?=w.heap[k]?) (hl:∀ k,own k→k < w'.heap.size):zBP w' l d pre own M dv ev vs where
 cells:=(hs l h.ol).trans h.cells
 data:=OwnR.keep h.data fun k hk=>hs k (h.od k hk).1
 row:=h.row.keep fun k hk=>hs k (h.oe k hk).1
 rows:=fun i u b hu hb=>OwnR.keep (h.rows i u b hu hb) fun k hk=>hs k (h.ov u (List.mem_of_getElem? hu) k hk).1
 ol:=h.ol
 od:=h.od
 oe:=h.oe
 ov:=h.ov
 olt:=hl
 last:=h.last
 psz:=h.psz
 big:=h.big
theorem zBP.below (h:zBP w l d pre own M dv ev vs) (hb:Below w.heap.size w w'):zBP w' l d pre own M dv ev vs :=
 h.keep (fun k hk=>hb.block k (h.olt k hk)) fun k hk=>Nat.lt_of_lt_of_le (h.olt k hk) hb.size
theorem zBP.c0 (h:zBP w l d pre own M dv ev vs):w.cell? ⟨l,0,none⟩=some (.pointer (some ⟨d,0,none⟩)):=zAC h.cells rfl
theorem zBP.c1 (h:zBP w l d pre own M dv ev vs):w.cell? ⟨l,1,none⟩=some (.string pre):=zAC h.cells rfl
theorem zBP.c2 (h:zBP w l d pre own M dv ev vs):w.cell? ⟨l,2,none⟩=some (.int .i64 (M.base:Int)):=zAC h.cells rfl
theorem zBP.c3 (h:zBP w l d pre own M dv ev vs):w.cell? ⟨l,3,none⟩=some dv:=zAC h.cells rfl
theorem zBP.c4 (h:zBP w l d pre own M dv ev vs):w.cell? ⟨l,4,none⟩=some ev:=zAC h.cells rfl
theorem zBP.c5 (h:zBP w l d pre own M dv ev vs):w.cell? ⟨l,5,none⟩=some (.bool M.dead):=zAC h.cells rfl
theorem zBP.fr (h:zBP w l d pre own M dv ev vs) (i:Nat):w.frozen? ⟨l,i,none⟩=false:=zAI h.cells i
def zCN (l d:Nat) (pre:ByteArray) (w:World):Prop:=w.cell? ⟨l,0,none⟩=some (.pointer (some ⟨d,0,none⟩))∧w.cell? ⟨l,1,none⟩=some (.string pre)∧pre.size≤20
theorem zBP.lc (h:zBP w l d pre own M dv ev vs):zCN l d pre w:=⟨h.c0,h.c1,h.psz.2⟩
end
def sImg (s:ByteArray):ByteArray:=s ++ ⟨#[45,105,109,103]⟩
def sLog (s:ByteArray):ByteArray:=s ++ ⟨#[45,108,111,103]⟩
def sShadow (s:ByteArray):ByteArray:=s ++ ⟨#[126]⟩
theorem nm_img (s:ByteArray):nm (sImg s)=imgN (nm s):=by simp [nm,sImg,imgN,imgX]
theorem zC7 (s:ByteArray):nm (sLog s)=logN (nm s):=by simp [nm,sLog,logN,logX]
theorem nm_sha (s:ByteArray):nm (sShadow s)=zAD (nm s):=zAp s
theorem zB9 (s:ByteArray):(sLog s).size=s.size+4:=by simp [sLog,ByteArray.size_append];rfl
theorem zD1 (s:ByteArray):(sImg s).size=s.size+4:=by simp [sImg,ByteArray.size_append];rfl
theorem size_sha (s:ByteArray):(sShadow s).size=s.size+1:=by simp [sShadow,ByteArray.size_append];rfl
section
variable {w w1:World} {l d:Nat} {pre:ByteArray} {D:zAA} {F:Nat→Prop}
theorem zA2 (h:zCN l d pre w):Calls Tryz.prog 136 #[.pointer (some ⟨l,0,none⟩)] w fun e w'=>e=.returned (.string (sImg pre))∧w=w':=by
 obtain ⟨-,h1,h2⟩:=h
 go_enter Tryz.func136,Tryz.ntmps136
 go_wp2_with fail
 go_ret
 exact ⟨rfl,rfl⟩
theorem zAQ (h:zCN l d pre w):Calls Tryz.prog 129 #[.pointer (some ⟨l,0,none⟩)] w fun e w'=>e=.returned (.string (sLog pre))∧w=w':=by
 obtain ⟨-,h1,h2⟩:=h
 go_enter Tryz.func129,Tryz.ntmps129
 go_wp2_with fail
 go_ret
 exact ⟨rfl,rfl⟩
theorem names_has (hD:D.OK) (n:Bs):(zBN D).contains n=(Sat.get n D.files).isSome:=by
 rw [Bool.eq_iff_iff,List.contains_iff_mem]
 unfold zBN
 rw [List.mem_map]
 constructor
 ·rintro ⟨p,hp,rfl⟩
  rw [zBo hD.srt (n:=p.1) (a:=p.2) hp]
  rfl
 ·intro h
  obtain ⟨f,hf⟩:=Option.isSome_iff_exists.1 h
  exact ⟨(n,f),zBM hf,rfl⟩
theorem str_of (s:ByteArray):(⟨(nm s).toArray⟩:ByteArray)=s:=by simp [nm]
theorem has_calls (h:St w w1 d D F) (s:ByteArray) :
  Calls Tryz.prog 186 #[.pointer (some ⟨d,0,none⟩),.string s] w1 fun e w'=>e=.returned (.bool (Sat.get (nm s) D.files).isSome)∧Below w1.heap.size w1 w'∧St w w' d D F:=by
 have Hl:=zh (st_list h)
 have hnl:(zBN D).length≤9223372036854775807:=by unfold zBN;rw [List.length_map];have:=h.ok.count;omega
 have He:=zh (names_has h.ok (nm s))
 clear h
 go_enter Tryz.func186,Tryz.ntmps186
 go_wp2_with fail
 refine Hl.out.mono ?_
 rintro e w2 ⟨v,rfl,hv,-,hb,hst⟩
 have hv':HasN w2 v (zBN D):=OwnR.holds hv
 have hc:=contains_calls hv' hnl (nm s)
 rw [str_of,He.out] at hc
 have Hc:=zh hc
 have HE:=zh (And.intro hb hst)
 clear hv hb hst hv' hc Hl
 go_wp2_with fail
 refine Hc.out.mono ?_
 rintro e w3 ⟨rfl,rfl⟩
 go_wp2_with fail
 go_ret
 exact ⟨rfl,HE.out⟩
theorem zDv (h:St w w1 d D F) {p:Option Addr} {n c:Nat} {ns:List Bs} (hx:∀ W,Below w.heap.size w W→Same F w1 W→HasN W (.slice p n c) ns) (hsz:∀ x ∈ ns,x.length≤9223372036854775807) (hn63:ns.length≤140737488355328) :
  Calls Tryz.prog 137 #[.pointer (some ⟨d,0,none⟩),.slice p n c] w1 (Told w d F w1 (D.rid ns)):=by
 have hn:ns.length=n:=by obtain ⟨_,_,e⟩:=(hx w1 h.below (fun _ _=>rfl)).slice;simp only [Value.slice.injEq] at e;exact e.2.1.symm
 rw [hn] at hn63
 have Hst:=zh h
 have Hx:=zh hx
 have Hsz:=zh hsz
 have Hn:=zh hn
 clear h hx hsz hn
 go_enter Tryz.func137,Tryz.ntmps137
 go_wp2_with fail
 go_loopw [10] (fun i wr=>∃ (k:Nat) (Dk:zAA),k≤n∧i=.int .i64 k∧St w wr d Dk F∧Same F w1 wr∧D.rid ns=Dk.rid (ns.drop k)) (fun i _=>n - (intOf i).toNat)
 case atStart=>exact ⟨0,D,Nat.zero_le _,rfl,Hst.out,fun _ _=>rfl,rfl⟩
 case round =>
  clear Hst
  obtain ⟨k,Dk,hk,rfl,hr,hsame,hcl⟩:=hrel
  by_cases hlt:k < n
  ·have hkl:k < ns.length:=by rw [Hn.out];exact hlt
   rw [List.drop_eq_getElem_cons hkl] at hcl
   rcases (Hx.out wr hr.below hsame).at with h0 | ⟨b,o,c1,e1,hc⟩
   ·rw [h0] at hkl
    simp at hkl
   rw [Hn.out] at e1
   simp only [Value.slice.injEq] at e1
   obtain ⟨rfl,-,rfl⟩:=e1
   have hcw:=hc k _ (List.getElem?_eq_getElem hkl)
   rw [zCX] at hcw
   have hx64:=Hsz.out _ (List.getElem_mem hkl)
   generalize ns[k]=x at *
   have hxs:(⟨x.toArray⟩:ByteArray).size≤9223372036854775807:=by
    have:(⟨x.toArray⟩:ByteArray).size=x.length:=by rw [← zDU,nm_str]
    omega
   have hhas:=has_calls hr ⟨x.toArray⟩
   rw [nm_str] at hhas
   have Hsame:=zh hsame
   have Hr:=zh hr
   have hcl':D.rid ns=if (zAA.rid1 Dk x).2=0 then zAA.rid (zAA.rid1 Dk x).1 (ns.drop (k+1)) else zAA.rid1 Dk x:=hcl
   have Hcl:=zh hcl'
   clear hsame hcl hcl' hc hkl hr hx64
   cases hg:(Sat.get x Dk.files).isSome with
   | false =>
    rw [hg] at hhas
    have Hhas:=zh hhas
    have hr1:zAA.rid1 Dk x=(Dk,0):=by unfold zAA.rid1;rw [hg];rfl
    have Hr1:=zh hr1
    clear hhas hr1 hg
    go_wp2_with fail
    refine Hhas.out.mono ?_
    rintro e w3 ⟨rfl,hb3,hst3⟩
    have HE:=zh (And.intro hst3 (Hsame.out.trans (zBF Hr.out hb3)))
    clear hb3 hst3 Hhas
    go_wp2_with fail
    go_roundw
    case rel=>exact ⟨k+1,Dk,by omega,by go_num,HE.out.1,HE.out.2,by rw [Hcl.out,Hr1.out,if_pos rfl]⟩
    case measure=>simp [intOf];omega
   | true =>
    rw [hg] at hhas
    have Hhas:=zh hhas
    have hr1:zAA.rid1 Dk x=Dk.remove [x]:=by unfold zAA.rid1;rw [hg];rfl
    have Hr1:=zh hr1
    clear hhas hr1 hg
    go_wp2_with fail
    refine Hhas.out.mono ?_
    rintro e w3 ⟨rfl,hb3,hst3⟩
    have hrm:=st_remove hst3 [(⟨x.toArray⟩:ByteArray)] w3.heap.size 1 rfl (0,0) (by simp) (by simpa using hxs)
    rw [show [(⟨x.toArray⟩:ByteArray)].map nm=[x] from by rw [List.map_cons,nm_str,List.map_nil]] at hrm
    have Hsa:=zh ((Hsame.out.trans (zBF Hr.out hb3)).trans (zBF hst3 ((Below.refl w3.heap.size w3).alloc (Nat.le_refl _) (.cells #[.string ⟨x.toArray⟩] 9))))
    clear hb3 hst3 Hhas
    cases hz:zAA.remove Dk [x] with
    | mk D1 e1 =>
     rw [hz] at hrm Hr1
     have Hrm:=zh hrm
     clear hrm hz
     by_cases he:e1=0
     ·subst he
      go_wp2_with fail
      refine Hrm.out.mono ?_
      rintro e w4 ⟨rfl,hst4,hs4⟩
      have HE:=zh (And.intro (show St w w4 d D1 F from hst4) (Hsa.out.trans hs4))
      clear hst4 hs4 Hrm
      go_wp2_with fail
      go_roundw
      case rel=>exact ⟨k+1,D1,by omega,by go_num,HE.out.1,HE.out.2,by rw [Hcl.out,Hr1.out,if_pos rfl]⟩
      case measure=>simp [intOf];omega
     ·have hne:((e1:Int) != 0)=true:=by simp;omega
      go_wp2_with fail
      refine Hrm.out.mono ?_
      rintro e w4 ⟨rfl,hst4,hs4⟩
      have HE:=zh (show Told w d F w1 (D.rid ns) (.returned (.int .i64 (e1:Int))) w4 from by
       rw [Hcl.out,Hr1.out,if_neg he]
       exact ⟨rfl,hst4,Hsa.out.trans hs4⟩)
      clear hst4 hs4 Hrm
      go_wp2_with fail
      go_ret
      exact HE.out
  ·have HE:=zh (show Told w d F w1 (D.rid ns) (.returned (.int .i64 0)) wr from by
    rw [hcl,List.drop_of_length_le (by rw [Hn.out];omega)]
    exact ⟨rfl,hr,hsame⟩)
   clear hr hsame hcl
   go_wp2_with fail
   go_ret
   exact HE.out
end
def LedF (w w1:World) (l d:Nat) (pre:ByteArray) (D:zAA) (M:LedM) (F:Nat→Prop):Prop :=
 ∃ own dv ev vs,zBP w1 l d pre own M dv ev vs∧St w w1 d D (fun k=>own k∨F k)∧(∀ k,own k→w.heap.size≤k∧¬ F k)∧∀ k,F k→k < w1.heap.size
theorem zAT {w:World} {a:Addr} {v:Value} (h:w.cell? a=some v) (o:Obj):(w.alloc o).cell? a=some v:=(((Below.refl w.heap.size w).alloc (Nat.le_refl _) o).cell (World.block_lt_of_cell? w _ h)).trans h
theorem zDr {w w':World} {e:TypeId} {v:Value} {b:Bs} (h:OwnB w e v b) (hb:Below w.heap.size w w'):OwnB w' e v b:=OwnR.keep h fun k hk=>hb.block k (OwnR.lt h hk)
theorem zAH (w:World):Below w.heap.size w w.drew:=⟨rfl,rfl,rfl,Nat.le_refl _,fun _ _=>rfl⟩
theorem zAb (w:World) (o:Obj):Below w.heap.size w (w.alloc o):=(Below.refl _ _).alloc (Nat.le_refl _) o
section
variable {w w1 w2:World} {l d:Nat} {pre:ByteArray} {D:zAA} {M:LedM} {F F':Nat→Prop}
theorem LedF.bel (h:LedF w w1 l d pre D M F):Below w.heap.size w w1:=let ⟨_,_,_,_,_,hS,_,_⟩:=h;hS.below
theorem LedF.okD (h:LedF w w1 l d pre D M F):D.OK:=let ⟨_,_,_,_,_,hS,_,_⟩:=h;hS.ok
theorem LedF.flt (h:LedF w w1 l d pre D M F) {k:Nat} (hk:F k):k < w1.heap.size:=let ⟨_,_,_,_,_,_,_,hF⟩:=h;hF k hk
theorem LedF.lc (h:LedF w w1 l d pre D M F):zCN l d pre w1:=let ⟨_,_,_,_,hL,_,_,_⟩:=h;hL.lc
theorem LedF.st (h:LedF w w1 l d pre D M F):St w w1 d D NoF:=let ⟨_,_,_,_,_,hS,_,_⟩:=h;hS.noF
theorem LedF.llt (h:LedF w w1 l d pre D M F):l < w1.heap.size:=let ⟨_,_,_,_,hL,_,_,_⟩:=h;hL.olt l hL.ol
theorem LedF.last (h:LedF w w1 l d pre D M F):M.last≤1099511627776:=let ⟨_,_,_,_,hL,_,_,_⟩:=h;hL.last
theorem LedF.psz (h:LedF w w1 l d pre D M F):1≤pre.size∧pre.size≤20:=let ⟨_,_,_,_,hL,_,_,_⟩:=h;hL.psz
theorem LedF.cells (h:LedF w w1 l d pre D M F):∃ dv ev,w1.heap[l]?=some (.cells #[.pointer (some ⟨d,0,none⟩),.string pre,.int .i64 (M.base:Int),dv,ev,.bool M.dead] 183 (0,0))∧OwnB w1 5 dv M.data∧∃ vs,OwnR w1 22 1 ev M.entries.length vs∧∀ (i:Nat) u b,vs[i]?=some u→M.entries[i]?=some b→OwnB w1 5 u b :=
 let ⟨_,dv,ev,vs,hL,_,_,_⟩:=h;⟨dv,ev,hL.cells,hL.data,vs,hL.row,hL.rows⟩
theorem LedF.move {S:Nat→Prop} (h:LedF w w1 l d pre D M F) (hc:Chg S w1 w2) (hS:∀ k,k < w1.heap.size→S k→F k∧w.heap.size≤k) (hF:∀ k,F' k→(F k∨w1.heap.size≤k)∧k < w2.heap.size):LedF w w2 l d pre D M F':=by
 obtain ⟨own,dv,ev,vs,hL,hSt,hn,hl⟩:=h
 refine ⟨own,dv,ev,vs,hL.keep (fun k hk=>hc.block k (hL.olt k hk) fun hs=>(hn k hk).2 (hS k (hL.olt k hk) hs).1) fun k hk=>Nat.lt_of_lt_of_le (hL.olt k hk) hc.size,hSt.move hc (fun k hk hs=>⟨.inr (hS k hk hs).1,(hS k hk hs).2⟩) (fun k hk=>?_),fun k hk=>⟨(hn k hk).1,fun hf=>?_⟩,fun k hk=>(hF k hk).2⟩
 ·rcases hk with hk | hk
  ·exact ⟨.inl (.inl hk),Nat.lt_of_lt_of_le (hL.olt k hk) hc.size⟩
  ·exact ⟨(hF k hk).1.imp .inr id,(hF k hk).2⟩
 ·rcases (hF k hf).1 with h | h
  ·exact (hn k hk).2 h
  ·have:=hL.olt k hk
   omega
theorem LedF.next (h:LedF w w1 l d pre D M F) (hb:Below w1.heap.size w1 w2):LedF w w2 l d pre D M F :=
 h.move (Chg.of_below hb) (fun _ _ h=>h.elim) fun _ hk=>⟨.inl hk,Nat.lt_of_lt_of_le (h.flt hk) hb.size⟩
theorem LedF.same (h:LedF w w1 l d pre D M F) (hb:Below w1.heap.size w1 w2):Same F w1 w2:=fun _ hk=>hb.block _ (h.flt hk)
theorem LedF.less (h:LedF w w1 l d pre D M F) (hF:∀ k,F' k→F k):LedF w w1 l d pre D M F' :=
 h.move (Chg.refl _ _:Chg (fun _=>False) w1 w1) (fun _ _ h=>h.elim) fun _ hk=>⟨.inl (hF _ hk),h.flt (hF _ hk)⟩
theorem LedF.more (h:LedF w w1 l d pre D M F) (hb:Below w1.heap.size w1 w2) (hF:∀ k,F' k→F k∨w1.heap.size≤k∧k < w2.heap.size):LedF w w2 l d pre D M F' :=
 h.move (Chg.of_below hb) (fun _ _ h=>h.elim) fun k hk=>by
  rcases hF k hk with h1 | h1
  ·exact ⟨.inl h1,Nat.lt_of_lt_of_le (h.flt h1) hb.size⟩
  ·exact ⟨.inr h1.1,h1.2⟩
theorem LedF.box (h:LedF w w1 l d pre D M F) (o:Obj):LedF w (w1.alloc o) l d pre D M (fun k=>F k∨k=w1.heap.size) :=
 h.more (zAb w1 o) fun k hk=>hk.imp id fun e=>⟨by omega,by simp;omega⟩
theorem zDp {P:Program} {f:FuncId} {args:Array Value} {Re:zAA × Nat} {wc:World} (h:LedF w w1 l d pre D M F) (hb:Below w1.heap.size w1 wc) (hx:∀ G,St w w1 d D G→Calls P f args wc (Told w d G wc Re)) :
  Calls P f args wc fun e w'=>e=.returned (.int .i64 (Re.2:Int))∧LedF w w' l d pre Re.1 M F∧Same F w1 w'∧w'.heap[l]?=w1.heap[l]?:=by
 obtain ⟨own,dv,ev,vs,hL,hS,hn,hl⟩:=h
 refine (hx _ hS).mono ?_
 rintro e w' ⟨rfl,hS',hs⟩
 refine ⟨rfl,⟨own,dv,ev,vs,?_,hS',hn,fun k hk=>hS'.flt (.inr hk)⟩,fun k hk=>(hs k (.inr hk)).trans (hb.block k (hl k hk)),(hs l (.inl hL.ol)).trans (hb.block l (hL.olt l hL.ol))⟩
 exact (hL.below hb).keep (fun k hk=>hs k (.inl hk)) fun k hk=>hS'.flt (.inl hk)
theorem LedF.turned {own own':Nat→Prop} {M':LedM} {dv' ev':Value} {vs':List Value} (hS:St w w1 d D (fun k=>own k∨F k)) (hn:∀ k,own k→w.heap.size≤k∧¬ F k) (hl:∀ k,F k→k < w1.heap.size)
  (hL':zBP w2 l d pre own' M' dv' ev' vs') (hc:Chg own w1 w2) (hx:∀ k,own' k→own k∨w1.heap.size≤k):LedF w w2 l d pre D M' F∧Same F w1 w2:=by
 refine ⟨⟨own',dv',ev',vs',hL',hS.move hc (fun k _ hk=>⟨.inl hk,(hn k hk).1⟩) (fun k hk=>?_),fun k hk=>?_,fun k hk=>Nat.lt_of_lt_of_le (hl k hk) hc.size⟩,fun k hk=>hc.block k (hl k hk) fun ho=>(hn k ho).2 hk⟩
 ·rcases hk with hk | hk
  ·exact ⟨(hx k hk).imp .inl id,hL'.olt k hk⟩
  ·exact ⟨.inl (.inr hk),Nat.lt_of_lt_of_le (hl k hk) hc.size⟩
 ·rcases hx k hk with h | h
  ·exact hn k h
  ·exact ⟨Nat.le_trans hS.below.size h,fun hf=>by have:=hl k hf;omega⟩
end
theorem zCN.same {l d:Nat} {pre:ByteArray} {w w':World} (h:zCN l d pre w) (hb:w'.heap[l]?=w.heap[l]?):zCN l d pre w' :=
 ⟨(World.cell?_of_block (a:=⟨l,0,none⟩) hb).trans h.1,(World.cell?_of_block (a:=⟨l,1,none⟩) hb).trans h.2.1,h.2.2⟩
section
variable {w w1:World} {l d:Nat} {pre:ByteArray} {D:zAA} {M:LedM} {F:Nat→Prop}
theorem last_calls (h:LedF w w1 l d pre D M F) :
  Calls Tryz.prog 126 #[.pointer (some ⟨l,0,none⟩)] w1 fun e w'=>e=.returned (.int .i64 (M.last:Int))∧∃ q,w'=w1.drewN q:=by
 have hla:=h.last
 obtain ⟨dv,ev,hc,-,vs,hrow,-⟩:=h.cells
 obtain ⟨p,c,rfl⟩:=hrow.shape
 have h2:w1.cell? ⟨l,2,none⟩=some (.int .i64 (M.base:Int)):=zAC hc rfl
 have h4:w1.cell? ⟨l,4,none⟩=some (.slice p M.entries.length c):=zAC hc rfl
 have HL:=zh (show ((M.base:Int)+(M.entries.length:Int))=(M.last:Int) from by unfold LedM.last;omega)
 have hb:M.base≤1099511627776:=by unfold LedM.last at hla;omega
 have he:M.entries.length≤1099511627776:=by unfold LedM.last at hla;omega
 clear h hc hrow hla
 generalize M.entries.length=n at *
 generalize M.base=b at *
 go_enter Tryz.func126,Tryz.ntmps126
 have hw:IntKind.i64.wrap ((b:Int)+(n:Int))=(b:Int)+(n:Int):=IntWalk.i64_in _ (by omega)
 go_wp2_with fail
 go_quiet (fail)
 go_wp2_with fail
 go_ret
 exact ⟨by rw [HL.out];rfl,_,rfl⟩
end
structure zAF where
 n:Bs
 b:Value
 f:zAP
def zAF.cells (x:zAF):List Value:=[encStr x.n,x.b,.int .i64 (x.f.lasts:Int)]
def zAF.key (x:zAF):Bs × zAP:=(x.n,x.f)
def zDT:Option Nat→Int
 | none=>-1
 | some k=>k
theorem zDF (L:List zAF) (i:Nat) (x:zAF) (h:L[i]?=some x) (j:Nat) (hj:j < 3):(L.flatMap zAF.cells)[i * 3+j]?=x.cells[j]?:=by
 induction L generalizing i with
 | nil=>simp at h
 | cons y r ih =>
  rw [List.flatMap_cons]
  cases i with
  | zero =>
   simp at h
   subst h
   rw [List.getElem?_append_left (by simp [zAF.cells];omega)]
   simp
  | succ i =>
   rw [List.getElem?_append_right (by simp [zAF.cells];omega)]
   have e:(i+1) * 3+j - y.cells.length=i * 3+j:=by simp [zAF.cells];omega
   rw [e]
   exact ih i (by simpa using h)
structure zAU (w:World) (r:Nat) (v:Value) (L:List zAF) (own:Nat→Prop) (D:zAA):Prop where
 cells:w.heap[r]?=some (.cells #[.int .i64 (D.room:Int),v,.int .i64 (zDT D.fuse)] 118 (0,0))
 row:OwnR w 127 3 v L.length (L.flatMap zAF.cells)
 files:D.files=L.map zAF.key
 data:∀ x ∈ L,OwnB w 5 x.b x.f.data
 or:own r
 ov:∀ k,v.ownBlock=some k→own k∧k≠r
 ob:∀ x ∈ L,∀ k,x.b.ownBlock=some k→own k∧k≠r∧v.ownBlock≠some k
 olt:∀ k,own k→k < w.heap.size
 ok:D.OK
def RefAt (w:World) (r:Nat) (D:zAA) (own:Nat→Prop):Prop:=∃ v L,zAU w r v L own D
theorem zAU.keep {w w':World} {r:Nat} {v:Value} {L:List zAF} {own:Nat→Prop} {D:zAA} (h:zAU w r v L own D) (hs:w.heap.size≤w'.heap.size) (hb:∀ k,own k→w'.heap[k]?=w.heap[k]?):zAU w' r v L own D where
 cells:=(hb r h.or).trans h.cells
 row:=h.row.keep fun k hk=>hb k (h.ov k hk).1
 files:=h.files
 data:=fun x hx=>OwnR.keep (h.data x hx) fun k hk=>hb k (h.ob x hx k hk).1
 or:=h.or
 ov:=h.ov
 ob:=h.ob
 olt:=fun k hk=>Nat.lt_of_lt_of_le (h.olt k hk) hs
 ok:=h.ok
theorem RefAt.keep {w w':World} {r:Nat} {own:Nat→Prop} {D:zAA} (h:RefAt w r D own) (hs:w.heap.size≤w'.heap.size) (hb:∀ k,own k→w'.heap[k]?=w.heap[k]?):RefAt w' r D own:=by
 obtain ⟨v,L,h⟩:=h
 exact ⟨v,L,h.keep hs hb⟩
section
variable {w:World} {r:Nat} {v:Value} {L:List zAF} {own:Nat→Prop} {D:zAA}
theorem zAU.c0 (h:zAU w r v L own D):w.cell? ⟨r,0,none⟩=some (.int .i64 (D.room:Int)):=zAC h.cells rfl
theorem zAU.c1 (h:zAU w r v L own D):w.cell? ⟨r,1,none⟩=some v:=zAC h.cells rfl
theorem zAU.c2 (h:zAU w r v L own D):w.cell? ⟨r,2,none⟩=some (.int .i64 (zDT D.fuse)):=zAC h.cells rfl
theorem zAU.len (h:zAU w r v L own D):L.length=D.files.length:=by rw [h.files,List.length_map]
theorem zAU.at (h:zAU w r v L own D):L=[]∨∃ g c,v=.slice (some ⟨g,0,none⟩) L.length c∧L.length≤c∧∀ i x,L[i]?=some x→w.cell? ⟨g,i * 3,none⟩=some (encStr x.n)∧w.cell? ⟨g,i * 3+1,none⟩=some x.b∧w.cell? ⟨g,i * 3+2,none⟩=some (.int .i64 (x.f.lasts:Int)):=by
 rcases h.row.2 with ⟨rfl,hn⟩ | ⟨g,cap,cur,e,hg,hnc,_⟩
 ·exact .inl (List.eq_nil_of_length_eq_zero hn)
 ·refine .inr ⟨g,cap,e,hnc,fun i x hx=>?_⟩
  have hc:=h.row.cells (g:=g) (by rw [e];rfl)
  refine ⟨?_,?_,?_⟩
  ·have:=hc (i * 3+0) (encStr x.n) ((zDF L i x hx 0 (by omega)).trans rfl)
   rwa [add_zero] at this
  ·have:=hc (i * 3+1) x.b ((zDF L i x hx 1 (by omega)).trans rfl)
   rwa [add_zero] at this
  ·have:=hc (i * 3+2) _ ((zDF L i x hx 2 (by omega)).trans rfl)
   rwa [add_zero] at this
theorem zAU.slice (h:zAU w r v L own D):∃ p c,v=.slice p L.length c:=OwnR.shape h.row
end
def zAl (n:Bs):List Bs→Nat
 | []=>0
 | x :: r=>if bytesBefore x n then zAl n r+1 else 0
def isAt (n:Bs) (l:List Bs):Bool:=l[zAl n l]? == some n
theorem less_before (x:Bs) (s:ByteArray):Op.bytesLess x s.toList=bytesBefore x (nm s):=by
 have e:s.toList=nm s:=ByteArray.toList_eq s
 rw [e,Bool.eq_iff_iff,bb_lt,bytesLess_eq,decide_eq_true_eq]
theorem drop_cons {α:Type} {l:List α} {k:Nat} {x:α} (h:l[k]?=some x):l.drop k=x :: l.drop (k+1):=by
 obtain ⟨hk,rfl⟩:=List.getElem?_eq_some_iff.1 h
 exact List.drop_eq_getElem_cons hk
theorem zCe {n x:Bs} {r:List Bs} (h:bytesBefore x n=true):zAl n (x :: r)=zAl n r+1:=by
 show (if bytesBefore x n then _ else _)=_
 rw [if_pos h]
theorem zDO {n x:Bs} {r:List Bs} (h:bytesBefore x n=false):zAl n (x :: r)=0:=by
 show (if bytesBefore x n then _ else _)=_
 rw [if_neg (by simp [h])]
theorem spotN_le (n:Bs):∀ l,zAl n l≤l.length
 | []=>Nat.le_refl _
 | x :: r=>by
  have:=spotN_le n r
  cases h:bytesBefore x n with
  | true=>rw [zCe h];simp;omega
  | false=>rw [zDO h];exact Nat.zero_le _
theorem zBL {w:World} {r:Nat} {v:Value} {L:List zAF} {own:Nat→Prop} {D:zAA} (h:zAU w r v L own D) (s:ByteArray) :
  Calls Tryz.prog 70 #[.pointer (some ⟨r,0,none⟩),.string s] w fun e w'=>e=.returned (.tuple #[.int .i64 (zAl (nm s) (L.map zAF.n):Int),.bool (isAt (nm s) (L.map zAF.n))])∧∃ q,w'=w.drewN q:=by
 obtain ⟨p,c,rfl⟩:=h.slice
 have c1:=h.c1
 have Hat:=zh h.at
 have hcount:L.length≤4096:=by rw [h.len];exact h.ok.count
 clear h
 have hNn:(L.map zAF.n).length=L.length:=List.length_map ..
 generalize hN:L.length=N at *
 have HN:=zh hN
 have HNn:=zh hNn
 clear hN hNn
 go_enter Tryz.func70,Tryz.ntmps70
 go_wp2_with fail
 go_loop [6] (fun i=>∃ k:Nat,k≤N∧i=.int .i64 k∧zAl (nm s) (L.map zAF.n)=k+zAl (nm s) ((L.map zAF.n).drop k)) (fun i=>N - (intOf i).toNat)
 case atStart=>exact ⟨0,Nat.zero_le _,rfl,by simp⟩
 case round =>
  obtain ⟨k,hk,rfl,hsp⟩:=hrel
  by_cases hlt:k < N
  ·have hkl:k < L.length:=by rw [HN.out];exact hlt
   obtain ⟨y,hy⟩:∃ y,L[k]?=some y:=⟨_,List.getElem?_eq_getElem hkl⟩
   have hmk:(L.map zAF.n)[k]?=some y.n:=by rw [List.getElem?_map,hy];rfl
   rw [drop_cons hmk] at hsp
   rcases Hat.out with h0 | ⟨g,c1,e1,-,hc⟩
   ·rw [h0] at hkl
    simp at hkl
   cases e1
   obtain ⟨hn0,-,-⟩:=hc k y hy
   rw [zCX] at hn0
   have Hsp:=zh hsp
   have Hmk:=zh hmk
   clear hc hkl hy hsp hmk
   generalize y.n=x at *
   cases hb:bytesBefore x (nm s) with
   | true =>
    have hb1:Op.bytesLess x s.toList=true:=by rw [less_before];exact hb
    go_wp2_with fail
    go_round
    case rel=>exact ⟨k+1,by omega,by go_num,by rw [Hsp.out,zCe hb];omega⟩
    case measure=>simp [intOf];omega
   | false =>
    have hb1:Op.bytesLess x s.toList=false:=by rw [less_before];exact hb
    have Hfin:zAl (nm s) (L.map zAF.n)=k:=by rw [Hsp.out,zDO hb];rfl
    have Hfa:isAt (nm s) (L.map zAF.n)=(x == nm s):=by unfold isAt;rw [Hfin,Hmk.out];rfl
    have Hres:=zh (show Value.tuple #[.int .i64 (k:Int),.bool (x == s.toList)]=.tuple #[.int .i64 (zAl (nm s) (L.map zAF.n):Int),.bool (isAt (nm s) (L.map zAF.n))] by rw [Hfin,Hfa,ByteArray.toList_eq];rfl)
    clear Hsp Hfin Hfa hb
    go_wp2_with fail
    go_quiet (fail)
    go_wp2
    go_ret2
    exact ⟨congrArg Ending.returned Hres.out,_,rfl⟩
  ·have hkN:k=N:=by omega
   subst hkN
   have hd:(L.map zAF.n).drop k=[]:=List.drop_of_length_le (by rw [HNn.out];exact Nat.le_refl _)
   rw [hd] at hsp
   have hsp':zAl (nm s) (L.map zAF.n)=k:=hsp
   have hfa:isAt (nm s) (L.map zAF.n)=false:=by unfold isAt;rw [hsp',List.getElem?_eq_none (by rw [HNn.out];exact Nat.le_refl _)];rfl
   have Hres:=zh (show Value.tuple #[.int .i64 (k:Int),.bool false]=.tuple #[.int .i64 (zAl (nm s) (L.map zAF.n):Int),.bool (isAt (nm s) (L.map zAF.n))] by rw [hsp',hfa])
   clear hsp hsp' hfa hd
   go_wp2_with fail
   go_quiet (fail)
   go_wp2
   go_ret2
   exact ⟨congrArg Ending.returned Hres.out,_,rfl⟩
/-! ### Where names stand -/
section
variable {α:Type}
theorem key_ne {n m:Bs} (h:n≠m):(n == m)=false:=by simpa using h
theorem zDk (n m:Bs) (a:α) (r:List (Bs × α)):Sat.get n ((m,a) :: r)=if m=n then some a else Sat.get n r:=by
 unfold Sat.get
 rw [List.find?_cons]
 by_cases e:m=n
 ·rw [if_pos e]
  simp [e]
 ·rw [if_neg e]
  simp [key_ne e]
theorem del_cons (n m:Bs) (a:α) (r:List (Bs × α)):del n ((m,a) :: r)=if m=n then del n r else (m,a) :: del n r:=by
 unfold del
 rw [List.filter_cons]
 by_cases e:m=n
 ·rw [if_pos e]
  simp [e]
 ·rw [if_neg e]
  simp [key_ne e]
theorem srt_after {n m:Bs} {a:α} {r:List (Bs × α)} (h:Srt ((m,a) :: r)) (hb:bytesBefore m n=false):∀ p ∈ r,p.1≠n∧bytesBefore n p.1=true:=by
 intro p hp
 have h1:=(List.pairwise_cons.1 h).1 p hp
 have h1:bytesBefore m p.1=true:=h1
 by_cases e:m=n
 ·subst e
  exact ⟨(bb_ne h1).symm,h1⟩
 ·rcases zDE m n e with h2 | h2
  ·rw [hb] at h2;cases h2
  ·have h3:=zB3 h2 h1
   exact ⟨(bb_ne h3).symm,h3⟩
theorem zD2 (n:Bs):∀ {L:List (Bs × α)},Srt L→isAt n (L.map (·.1))=(Sat.get n L).isSome∧∀ a,Sat.get n L=some a→L[zAl n (L.map (·.1))]?=some (n,a)
 | [],_=>⟨rfl,fun a h=>by cases h⟩
 | (m,a) :: r,h=>by
  have hr:Srt r:=(List.pairwise_cons.1 h).2
  obtain ⟨h1,h2⟩:=zD2 n hr
  cases hb:bytesBefore m n with
  | true =>
   have e:m≠n:=bb_ne hb
   have es:zAl n (((m,a) :: r).map (·.1))=zAl n (r.map (·.1))+1:=zCe hb
   rw [zDk,if_neg e]
   refine ⟨?_,fun x hx=>?_⟩
   ·rw [← h1]
    unfold isAt
    rw [es]
    rfl
   ·rw [es]
    exact h2 x hx
  | false =>
   have es:zAl n (((m,a) :: r).map (·.1))=0:=zDO hb
   by_cases e:m=n
   ·subst e
    rw [zDk,if_pos rfl]
    refine ⟨?_,fun x hx=>?_⟩
    ·unfold isAt
     rw [es]
     simp
    ·rw [es]
     cases hx
     rfl
   ·have hg:Sat.get n r=none:=zBv.2 fun p hp=>(srt_after h hb p hp).1
    rw [zDk,if_neg e,hg]
    refine ⟨?_,fun x hx=>by cases hx⟩
    unfold isAt
    rw [es]
    simp [e]
theorem del_after {n m:Bs} {a:α} {r:List (Bs × α)} (h:Srt ((m,a) :: r)) (hb:bytesBefore m n=false):del n r=r:=zCP (zBv.2 fun p hp=>(srt_after h hb p hp).1)
theorem del_at (n:Bs):∀ {L:List (Bs × α)},Srt L→isAt n (L.map (·.1))=true→del n L=L.take (zAl n (L.map (·.1))) ++ L.drop (zAl n (L.map (·.1))+1)
 | [],_,h=>by cases h
 | (m,a) :: r,h,ha=>by
  have hr:Srt r:=(List.pairwise_cons.1 h).2
  cases hb:bytesBefore m n with
  | true =>
   have es:zAl n (((m,a) :: r).map (·.1))=zAl n (r.map (·.1))+1:=zCe hb
   have ha':isAt n (r.map (·.1))=true:=by
    rw [← ha]
    unfold isAt
    rw [es]
    rfl
   rw [del_cons,if_neg (bb_ne hb),es,List.take_succ_cons,List.drop_succ_cons,del_at n hr ha']
   rfl
  | false =>
   have es:zAl n (((m,a) :: r).map (·.1))=0:=zDO hb
   have e:m=n:=by
    unfold isAt at ha
    rw [es] at ha
    simpa using ha
   rw [del_cons,if_pos e,es,del_after h hb]
   rfl
theorem ins_at (n:Bs) (f:α):∀ {L:List (Bs × α)},Srt L→Sat.get n L=none→ins (n,f) L=L.take (zAl n (L.map (·.1))) ++ (n,f) :: L.drop (zAl n (L.map (·.1)))
 | [],_,_=>rfl
 | (m,a) :: r,h,hg=>by
  have hr:Srt r:=(List.pairwise_cons.1 h).2
  have hne:m≠n:=fun e=>by rw [zDk,if_pos e] at hg;cases hg
  cases hb:bytesBefore m n with
  | true =>
   have es:zAl n (((m,a) :: r).map (·.1))=zAl n (r.map (·.1))+1:=zCe hb
   have hb2:bytesBefore n m=false:=by
    cases h2:bytesBefore n m with
    | false=>rfl
    | true =>
     have:=zB3 h2 hb
     rw [zCG] at this
     cases this
   rw [zDk,if_neg hne] at hg
   show (if bytesBefore n m then _ else _)=_
   rw [if_neg (by simp [hb2]),es,List.take_succ_cons,List.drop_succ_cons,ins_at n f hr hg]
   rfl
  | false =>
   have es:zAl n (((m,a) :: r).map (·.1))=0:=zDO hb
   have hb2:bytesBefore n m=true:=by
    rcases zDE m n hne with h2 | h2
    ·rw [hb] at h2;cases h2
    ·exact h2
   show (if bytesBefore n m then _ else _)=_
   rw [if_pos hb2,es]
   rfl
theorem put_at (n:Bs) (f:α):∀ {L:List (Bs × α)},Srt L→isAt n (L.map (·.1))=true→put n f L=L.set (zAl n (L.map (·.1))) (n,f)
 | [],_,h=>by cases h
 | (m,a) :: r,h,ha=>by
  have hr:Srt r:=(List.pairwise_cons.1 h).2
  cases hb:bytesBefore m n with
  | true =>
   have es:zAl n (((m,a) :: r).map (·.1))=zAl n (r.map (·.1))+1:=zCe hb
   have ha':isAt n (r.map (·.1))=true:=by
    rw [← ha]
    unfold isAt
    rw [es]
    rfl
   have hb2:bytesBefore n m=false:=by
    cases h2:bytesBefore n m with
    | false=>rfl
    | true =>
     have:=zB3 h2 hb
     rw [zCG] at this
     cases this
   rw [es,List.set_cons_succ,← put_at n f hr ha']
   show ins (n,f) (del n ((m,a) :: r))=_
   rw [del_cons,if_neg (bb_ne hb)]
   show (if bytesBefore n m then _ else _)=_
   rw [if_neg (by simp [hb2])]
   rfl
  | false =>
   have es:zAl n (((m,a) :: r).map (·.1))=0:=zDO hb
   have e:m=n:=by
    unfold isAt at ha
    rw [es] at ha
    simpa using ha
   rw [es,List.set_cons_zero]
   show ins (n,f) (del n ((m,a) :: r))=_
   rw [del_cons,if_pos e,del_after h hb]
   cases r with
   | nil=>rfl
   | cons p q =>
    have:=(srt_after h hb p (List.mem_cons_self ..)).2
    show (if bytesBefore n p.1 then _ else _)=_
    rw [if_pos this]
end
section
variable {w:World} {r:Nat} {v:Value} {L:List zAF} {own:Nat→Prop} {D:zAA}
theorem zAU.names (h:zAU w r v L own D):L.map zAF.n=D.files.map (·.1):=by
 rw [h.files,List.map_map]
 rfl
theorem zAU.is (h:zAU w r v L own D) (n:Bs):isAt n (L.map zAF.n)=(Sat.get n D.files).isSome:=by
 rw [h.names]
 exact (zD2 n h.ok.srt).1
theorem zAU.hit (h:zAU w r v L own D) {n:Bs} {f:zAP} (hg:Sat.get n D.files=some f):∃ x,L[zAl n (L.map zAF.n)]?=some x∧x.n=n∧x.f=f:=by
 have h1:=(zD2 n h.ok.srt).2 f hg
 rw [h.names]
 rw [h.files] at h1 ⊢
 rw [List.getElem?_map] at h1
 cases hx:L[zAl n (List.map (fun x=>x.fst) (List.map zAF.key L))]? with
 | none=>rw [hx] at h1;cases h1
 | some x =>
  rw [hx] at h1
  have:=Option.some.inj h1
  exact ⟨x,rfl,congrArg Prod.fst this,congrArg Prod.snd this⟩
end
/-! ### may,did -/
theorem rmay_burnt (d:Nat) (p:Option Addr) (n c:Nat) (w:World) (h2:w.cell? ⟨d,2,none⟩=some (.int .i64 0)) :
  Calls Tryz.prog 69 #[.pointer (some ⟨d,0,none⟩),.slice p n c] w fun e w'=>e=.returned (.int .i64 9)∧w=w':=by
 go_enter Tryz.func69,Tryz.ntmps69
 go_wp2
 go_ret
 exact ⟨rfl,rfl⟩
theorem rmay_names (d:Nat) (p:Option Addr) (ss:List ByteArray) (c:Nat) (w:World) (l:Int) (h2:w.cell? ⟨d,2,none⟩=some (.int .i64 l))
  (hl:(l == 0)=false) (hs:zC2 w p ss) (hm:ss.length≤140737488355328) (hsz:∀ s ∈ ss,s.size≤9223372036854775807) :
  Calls Tryz.prog 69 #[.pointer (some ⟨d,0,none⟩),.slice p ss.length c] w fun e w'=>e=.returned (.int .i64 (namesE ss))∧w=w':=by
 go_enter Tryz.func69,Tryz.ntmps69
 go_wp2
 go_loop [5] (fun i=>∃ k:Nat,k≤ss.length∧i=.int .i64 k∧((ss.take k).map nm).all okN=true) (fun i=>ss.length - (intOf i).toNat)
 case atStart=>exact ⟨0,Nat.zero_le _,rfl,rfl⟩
 case round =>
  obtain ⟨k,hk,rfl,hall⟩:=hrel
  by_cases hlt:k < ss.length
  ·have hss:ss[k]?=some ss[k]:=List.getElem?_eq_getElem hlt
   rcases hs with h | ⟨b,o,rfl,hc⟩
   ·subst h
    simp at hlt
   have hcell:=hc k _ hss
   have hz:ss[k].size≤9223372036854775807:=hsz _ (List.getElem_mem hlt)
   have Hkey:=zh (take_ok hlt hall)
   have Hno:=zh (bad_at hlt)
   clear hc hsz hall hss
   rw [okN_nm] at Hkey Hno
   generalize ss[k]=s at *
   by_cases h1:1≤s.size
   ·by_cases h64:s.size≤64
    ·go_wp2
     go_round
     case rel=>exact ⟨k+1,by omega,by go_num,Hkey.out (by simp [h1,h64])⟩
     case measure=>simp [intOf];omega
    ·go_wp2
     go_ret
     exact ⟨by rw [Hno.out (by simp [h64])];rfl,rfl⟩
   ·go_wp2
    go_ret
    exact ⟨by rw [Hno.out (by simp [h1])];rfl,rfl⟩
  ·have Hall:=zh hall
   clear hall
   go_wp2
   go_ret
   have h:=Hall.out
   rw [List.take_of_length_le (by omega)] at h
   exact ⟨by simp [namesE,h],rfl⟩
section
variable {w:World} {r:Nat} {v:Value} {L:List zAF} {own:Nat→Prop} {D:zAA}
theorem left_zero {f:Option Nat} (h:f≠some 0):(zDT f == 0)=false:=by
 cases f with
 | none=>rfl
 | some k =>
  have:k≠0:=fun e=>h (by rw [e])
  simp [zDT]
  omega
theorem zBg (h:zAU w r v L own D) (p:Option Addr) (ss:List ByteArray) (c:Nat) (hs:zC2 w p ss) (hm:ss.length≤140737488355328) (hsz:∀ s ∈ ss,s.size≤9223372036854775807) :
  Calls Tryz.prog 69 #[.pointer (some ⟨r,0,none⟩),.slice p ss.length c] w fun e w'=>e=.returned (.int .i64 (D.may (ss.map nm):Int))∧w=w':=by
 have h2:=h.c2
 by_cases hb:D.fuse=some 0
 ·rw [hb] at h2
  refine (rmay_burnt r p ss.length c w h2).mono ?_
  rintro e w' ⟨rfl,rfl⟩
  exact ⟨by simp [zAA.may,hb],rfl⟩
 ·refine (rmay_names r p ss c w _ h2 (left_zero hb) hs hm hsz).mono ?_
  rintro e w' ⟨rfl,rfl⟩
  refine ⟨?_,rfl⟩
  unfold namesE zAA.may
  rw [if_neg hb]
  split <;> rfl
theorem zAU.fuse_set (h:zAU w r v L own D) (f:Option Nat) (hf:∀ k,f=some k→k≤9223372036854775807):zAU (w.setCell ⟨r,2,none⟩ (.int .i64 (zDT f))) r v L own { D with fuse:=f } where
 cells:=zAO h.cells 2 _
 row:=h.row.keep fun k hk=>zAE _ (h.ov k hk).2
 files:=h.files
 data:=fun x hx=>OwnR.keep (h.data x hx) fun k hk=>zAE _ (h.ob x hx k hk).2.1
 or:=h.or
 ov:=h.ov
 ob:=h.ob
 olt:=fun k hk=>by
  have:=h.olt k hk
  simpa [World.setCell] using this
 ok:={ h.ok with fuse:=hf }
theorem zCW {a:Addr} {u:Value} (h:own a.block):Chg own w (w.setCell a u):=(Chg.setCell w a u).mono fun k _ e=>by rw [e];exact h
theorem zBs (h:zAU w r v L own D) (hf:D.fuse≠some 0) :
  Calls Tryz.prog 72 #[.pointer (some ⟨r,0,none⟩)] w fun e w'=>e=.returned (.int .i64 0)∧zAU w' r v L own D.done∧Chg own w w':=by
 have c2:=h.c2
 have hz:=zAI h.cells 2
 cases hfu:D.fuse with
 | none =>
  rw [hfu] at c2
  have hD:D.done=D:=by unfold zAA.done;rw [hfu];cases D;simp at hfu;subst hfu;rfl
  have Hf:=zh (show zAU w r v L own D.done∧Chg own w w from ⟨by rw [hD];exact h,Chg.refl _ _⟩)
  have c2':w.cell? ⟨r,2,none⟩=some (.int .i64 (-1)):=c2
  clear h hf hfu hD c2
  go_enter Tryz.func72,Tryz.ntmps72
  go_wp2
  go_ret
  exact ⟨rfl,Hf.out⟩
 | some k =>
  rw [hfu] at c2
  have hk0:k≠0:=fun e=>hf (by rw [hfu,e])
  have hkm:k≤9223372036854775807:=h.ok.fuse k hfu
  have hD:D.done={ D with fuse:=some (k - 1) }:=by unfold zAA.done;rw [hfu];rfl
  have h2:=h.fuse_set (some (k - 1)) (fun j e=>by have:=Option.some.inj e;omega)
  have e1:zDT (some (k - 1))=(k:Int) - 1:=by show ((k - 1:Nat):Int)=_;omega
  rw [e1,← hD] at h2
  have Hf:=zh (And.intro h2 (zCW (w:=w) (a:=⟨r,2,none⟩) (u:=.int .i64 ((k:Int) - 1)) h.or))
  have c2':w.cell? ⟨r,2,none⟩=some (.int .i64 (k:Int)):=c2
  clear h hf hfu hD c2 h2 e1
  go_enter Tryz.func72,Tryz.ntmps72
  go_wp2
  go_ret
  exact ⟨rfl,Hf.out⟩
theorem rfuse_calls (h:zAU w r v L own D) (n:Int) (hn:n≤9223372036854775807) (hn0:-9223372036854775808≤n) :
  Calls Tryz.prog 49 #[.pointer (some ⟨r,0,none⟩),.int .i64 n] w fun e w'=>e=.returned (.tuple #[])∧zAU w' r v L own (D.setFuse n)∧Chg own w w':=by
 have c2:=h.c2
 have hz:=zAI h.cells 2
 have h2:=h.fuse_set (if n < 0 then none else some n.toNat) (fun k e=>by split at e <;> simp at e;omega)
 have e1:zDT (if n < 0 then none else some n.toNat)=max (-1) n:=by
  split
  ·show (-1:Int)=_
   omega
  ·show ((n.toNat:Nat):Int)=_
   omega
 rw [e1] at h2
 have Hf:=zh (show zAU (w.setCell ⟨r,2,none⟩ (.int .i64 (max (-1) n))) r v L own (D.setFuse n)∧Chg own w (w.setCell ⟨r,2,none⟩ (.int .i64 (max (-1) n))) from ⟨h2,zCW h.or⟩)
 clear h h2 e1
 go_enter Tryz.func49,Tryz.ntmps49
 go_wp2
 go_end0
 exact ⟨rfl,Hf.out⟩
end
theorem rnew_calls (w:World) (n:Int) (h0:0≤n) (h1:n≤1073741824) :
  Calls Tryz.prog 14 #[.int .i64 n] w fun e w'=>∃ r,e=.returned (.tuple #[.pointer (some ⟨r,0,none⟩),.int .i64 0])∧zAU w' r (.slice none 0 0) [] (fun k=>k=r) (zAA.fresh n.toNat)∧Below w.heap.size w w'∧w.heap.size≤r:=by
 obtain ⟨m,rfl⟩:∃ m:Nat,n=(m:Int):=⟨n.toNat,by omega⟩
 go_enter Tryz.func14,Tryz.ntmps14
 go_wp2
 go_ret2
 refine ⟨w.heap.size,rfl,?_,(Below.refl _ _).alloc (Nat.le_refl _) _,Nat.le_refl _⟩
 exact {
  cells:=zAW w _
  row:=OwnR.nil _ _ _
  files:=rfl
  data:=fun x hx=>by cases hx
  or:=rfl
  ov:=fun k hk=>by cases hk
  ob:=fun x hx=>by cases hx
  olt:=fun k hk=>by rw [hk];simp
  ok:=ok_fresh _ (by rw [Int.toNat_natCast];omega) }
theorem has_names {w:World} (cs:Array Value) (ns:List Bs) (g n c:Nat) (hg:g=w.heap.size) (hn:n=ns.length) (h:cs.toList=ns.map encStr) (e:TypeId) (fr:Nat × Nat):HasN (w.alloc (.cells cs e fr)) (.slice (some ⟨g,0,none⟩) n c) ns:=by
 subst hg
 subst hn
 refine ⟨by simp,some ⟨w.heap.size,0,none⟩,c,rfl,fun e=>(by cases e),fun a ha i u hu=>?_⟩
 cases ha
 have e1:(⟨w.heap.size,0,none⟩:Addr).add i=⟨w.heap.size,i,none⟩:=by unfold Addr.add;split <;> simp_all
 rw [e1]
 refine zAC (zAW w _) ?_
 rw [← h] at hu
 simpa using hu
theorem OwnN.has {w:World} {v:Value} {ns:List Bs} (h:OwnN w v ns):HasN w v ns:=OwnR.holds h
theorem zAj {wa:World} {v v':Value} {B:Nat} (hloc:v'.ownBlock=v.ownBlock∨∃ g,v'.ownBlock=some g∧wa.heap.size≤g) (hv:∀ k,v.ownBlock=some k→B≤k) (hB:B≤wa.heap.size):∀ k,v'.ownBlock=some k→B≤k:=fun k hk=>by
 rcases hloc with e | ⟨g,e,hge⟩
 ·exact hv k (by rw [← e];exact hk)
 ·rw [e] at hk
  cases hk
  omega
theorem HasN.below {w w1:World} {v:Value} {l:List Bs} (h:HasN w v l) (hb:Below w.heap.size w w1):HasN w1 v l:=zAY.chg h (Chg.of_below hb) fun _ _=>id
theorem alloc_was (w:World) (o:Obj) {k:Nat} (h:k < w.heap.size):(w.alloc o).heap[k]?=w.heap[k]?:=((Below.refl w.heap.size w).alloc (Nat.le_refl _) o).block k h
def zDi (L:List zAF):Nat:=(L.map fun x=>x.f.data.length).sum
theorem flens_take (L:List zAF) {k:Nat} {x:zAF} (h:L[k]?=some x):zDi (L.take (k+1))=zDi (L.take k)+x.f.data.length:=by
 obtain ⟨hk,rfl⟩:=List.getElem?_eq_some_iff.1 h
 rw [List.take_succ_eq_append_getElem hk]
 simp only [zDi,List.map_append,List.map_cons,List.map_nil,List.sum_append,List.sum_cons,List.sum_nil,Nat.add_zero]
theorem flens_le (L:List zAF) (k:Nat):zDi (L.take k)≤zDi L:=by
 have e:zDi L=zDi (L.take k)+zDi (L.drop k):=by
  conv=>lhs;rw [← List.take_append_drop k L]
  simp only [zDi,List.map_append,List.sum_append]
 omega
section
variable {w:World} {r:Nat} {v:Value} {L:List zAF} {own:Nat→Prop} {D:zAA}
theorem zAU.used (h:zAU w r v L own D):D.used=zDi L:=by
 unfold zAA.used zBB zDi
 rw [h.files,List.map_map]
 rfl
theorem zAU.len_le (h:zAU w r v L own D) {k:Nat} {x:zAF} (hx:L[k]?=some x):x.f.data.length≤1073741824:=by
 have h1:=flens_take L hx
 have h2:=flens_le L (k+1)
 have h3:=h.used
 have h4:=h.ok.used
 have h5:=h.ok.room
 omega
theorem zDd (h:zAU w r v L own D) :
  Calls Tryz.prog 71 #[.pointer (some ⟨r,0,none⟩)] w fun e w'=>e=.returned (.int .i64 (D.used:Int))∧w'=w:=by
 obtain ⟨p,c,rfl⟩:=h.slice
 have c1:=h.c1
 have Hat:=zh h.at
 have Hda:=zh h.data
 have hcount:L.length≤4096:=by rw [h.len];exact h.ok.count
 have Hus:=zh h.used
 have hub:D.used≤1073741824:=Nat.le_trans h.ok.used h.ok.room
 rw [h.used] at hub ⊢
 have Hub:=zh hub
 clear h hub
 generalize hN:L.length=N at *
 have HN:=zh hN
 clear hN
 go_enter Tryz.func71,Tryz.ntmps71
 go_wp2_with fail
 go_loop [3,4] (fun a i=>∃ k:Nat,k≤N∧i=.int .i64 k∧a=.int .i64 (zDi (L.take k):Int)) (fun _ i=>N - (intOf i).toNat)
 case atStart=>exact ⟨0,Nat.zero_le _,rfl,rfl⟩
 case round =>
  obtain ⟨k,hk,rfl,rfl⟩:=hrel
  by_cases hlt:k < N
  ·have hkl:k < L.length:=by rw [HN.out];exact hlt
   obtain ⟨y,hy⟩:∃ y,L[k]?=some y:=⟨_,List.getElem?_eq_getElem hkl⟩
   have hym:y ∈ L:=List.mem_of_getElem? hy
   rcases Hat.out with h0 | ⟨g,c1,e1,-,hc⟩
   ·rw [h0] at hkl
    simp at hkl
   cases e1
   obtain ⟨-,hn1,-⟩:=hc k y hy
   obtain ⟨pb,cb,eb⟩:=HasB.slice (Hda.out y hym).has
   rw [eb] at hn1
   have hl:=flens_take L hy
   have hle:=flens_le L (k+1)
   have Hl:=zh hl
   have hb1:zDi (L.take k)+y.f.data.length≤1073741824:=by have:=Hub.out;omega
   clear hc hkl hy hym eb hl hle
   generalize y.f.data.length=m at *
   generalize hC:zDi (L.take k)=C at *
   go_wp2_with fail
   go_round
   case rel=>exact ⟨k+1,by omega,by go_num,by rw [Hl.out];go_num⟩
   case measure=>simp [intOf];omega
  ·have e:L.take k=L:=List.take_of_length_le (by rw [HN.out];omega)
   rw [e]
   go_wp2_with fail
   go_ret
   exact ⟨rfl,rfl⟩
theorem zBt (h:zAU w r v L own D) (s:ByteArray) :
  Calls Tryz.prog 81 #[.pointer (some ⟨r,0,none⟩),.string s] w (ReadPost w (Sat.get (nm s) D.files)):=by
 have hsp:=zBL h s
 rw [h.is] at hsp
 have c1:=h.c1
 cases hg:Sat.get (nm s) D.files with
 | none =>
  rw [hg] at hsp
  have Hsp:=zh hsp
  clear hsp c1 h
  go_enter Tryz.func81,Tryz.ntmps81
  go_wp2_with fail
  refine Hsp.out.mono ?_
  rintro e w2 ⟨rfl,q,rfl⟩
  go_wp2_with fail
  go_ret2
  exact ⟨.slice none 0 0,rfl,OwnR.nil _ _ _,fun k hk=>(by cases hk),⟨rfl,rfl,rfl,Nat.le_refl _,fun _ _=>rfl⟩⟩
 | some f =>
  rw [hg] at hsp
  obtain ⟨x,hx,hxn,rfl⟩:=h.hit hg
  have hlm:=h.len_le hx
  have hd:=(h.data x (List.mem_of_getElem? hx)).has
  have hN:zAl (nm s) (L.map zAF.n) < L.length:=(List.getElem?_eq_some_iff.1 hx).1
  generalize zAl (nm s) (L.map zAF.n)=i at *
  rcases h.at with h0 | ⟨g,c0,rfl,hlc,hc⟩
  ·rw [h0] at hN
   simp at hN
  obtain ⟨-,hn1,-⟩:=hc i x hx
  obtain ⟨pb,cb,eb⟩:=HasB.slice hd
  rw [eb] at hn1 hd
  have hrlt:r < w.heap.size:=h.olt r h.or
  have hglt:g < w.heap.size:=h.olt g (h.ov g rfl).1
  have Hsp:=zh hsp
  have Hd:=zh hd
  have hDa:zCH (some x.f)=x.f.data:=rfl
  generalize x.f.data=l at *
  generalize hlen:l.length=m at *
  have Hlen:=zh hlen
  obtain ⟨i0,hi,hz0,hz1,hz2⟩:=info_parts (show (Tryz.prog.info? 5).map (fun i=>(i.zero,i.size,i.bytes))=some (some (.int .u8 0),1,1) by kernel_rfl)
  clear hsp h hc hx hd hg hlen
  go_enter Tryz.func81,Tryz.ntmps81
  go_wp2_with fail
  refine Hsp.out.mono ?_
  rintro e w2 ⟨rfl,q,rfl⟩
  have hX8:Below w.heap.size w (w.drewN q):=⟨rfl,rfl,rfl,Nat.le_refl _,fun _ _=>rfl⟩
  have X11:=zh (hX8.alloc (Nat.le_refl _) (.cells #[] 5))
  have Hdw:=zh (show zAY ((w.drewN q).alloc (.cells #[] 5)) 1 (.slice pb m cb) m (zAN l) from by
   have h:=Hd.out.below X11.out
   unfold HasB at h
   rw [Hlen.out] at h
   exact h)
  have c1w:=(X11.out.cell (p:=⟨r,1,none⟩) hrlt).trans c1
  have hn1w:=(X11.out.cell (p:=⟨g,i * 3+1,none⟩) hglt).trans hn1
  clear hX8
  go_wp2_with (at_builtin;refine zAR ((w.drewN q).alloc (.cells #[] 5)) rfl (.tmp 16) (.tmp 24) 22 rfl 5 i0 (.int .u8 0) 1 1 Tryz.underlying22 hi hz0 hz1 hz2 rfl (by decide) (.slice (some ⟨w.heap.size,0,none⟩) 0 0) 0 [] rfl (zAq (w.drewN q) _) (.slice pb m cb) m (zAN l) rfl Hdw.out (zAM _) (by unfold maxLen;omega) (by omega) ?_;intro v12 w12 hown12 hgrow12 hloc12;rw [Nat.zero_add,List.nil_append] at hown12;have hX:=X11.out.grown hgrow12 X11.out.size (fun j e=>by simp [Value.ownBlock] at e;omega);have hnew:=zAj (B:=w.heap.size) hloc12 (fun k hk=>by simp [Value.ownBlock] at hk;omega) X11.out.size;have X12:=zh (And.intro hX (And.intro hown12 hnew));clear hown12 hgrow12 hloc12 hX hnew)
  go_ret2
  refine ⟨v12,rfl,?_,X12.out.2.2,X12.out.1⟩
  unfold OwnB
  rw [hDa,Hlen.out]
  exact X12.out.2.1
theorem str_one {w:World} (x:Bs):zAY (w.alloc (.cells #[.string ⟨x.toArray⟩] 9)) 1 (.slice (some ⟨w.heap.size,0,none⟩) 1 1) 1 [encStr x]:=has_names (w:=w) #[.string ⟨x.toArray⟩] [x] _ 1 1 rfl rfl rfl 9 (0,0)
theorem rlist_calls (h:zAU w r v L own D) :
  Calls Tryz.prog 141 #[.pointer (some ⟨r,0,none⟩)] w (Listed w D):=by
 obtain ⟨p,c,rfl⟩:=h.slice
 have c1:=h.c1
 have Hat:=zh h.at
 have hcount:L.length≤4096:=by rw [h.len];exact h.ok.count
 have hnames:zBN D=L.map zAF.n:=by rw [h.names];rfl
 have hrlt:r < w.heap.size:=h.olt r h.or
 have hglt:∀ k,(Value.slice p L.length c).ownBlock=some k→k < w.heap.size:=fun k hk=>h.olt k (h.ov k hk).1
 have Hnames:=zh hnames
 have Hglt:=zh hglt
 clear h hnames hglt
 have hNn:(L.map zAF.n).length=L.length:=List.length_map ..
 have HNn:=zh hNn
 generalize hN:L.length=N at *
 have HN:=zh hN
 clear hN hNn
 obtain ⟨i0,hi,hz0,hz1,hz2⟩:=info_parts (show (Tryz.prog.info? 9).map (fun i=>(i.zero,i.size,i.bytes))=some (some (.string ⟨#[]⟩),1,16) by kernel_rfl)
 go_enter Tryz.func141,Tryz.ntmps141
 go_wp2_with fail
 go_loopw [3,4] (fun a i wr=>∃ k:Nat,k≤N∧i=.int .i64 k∧OwnR wr 9 1 a k (((L.map zAF.n).take k).map encStr)∧(∀ j,a.ownBlock=some j→w.heap.size≤j)∧Below w.heap.size w wr) (fun _ i _=>N - (intOf i).toNat)
 case atStart=>exact ⟨0,Nat.zero_le _,rfl,OwnR.nil _ _ _,fun j hj=>(by cases hj),Below.refl _ _⟩
 case round =>
  obtain ⟨k,hk,rfl,hown,hnew,hbel⟩:=hrel
  have c1':=(hbel.cell (p:=⟨r,1,none⟩) hrlt).trans c1
  by_cases hlt:k < N
  ·have hkl:k < L.length:=by rw [HN.out];exact hlt
   obtain ⟨y,hy⟩:∃ y,L[k]?=some y:=⟨_,List.getElem?_eq_getElem hkl⟩
   have hyn:(L.map zAF.n)[k]?=some y.n:=by rw [List.getElem?_map,hy];rfl
   have htk:(L.map zAF.n).take (k+1)=(L.map zAF.n).take k ++ [y.n]:=by rw [List.take_add_one,hyn];rfl
   rcases Hat.out with h0 | ⟨g,cc,e1,-,hc⟩
   ·rw [h0] at hkl
    simp at hkl
   cases e1
   obtain ⟨hn0,-,-⟩:=hc k y hy
   have hn0':=(hbel.cell (p:=⟨g,k * 3,none⟩) (Hglt.out g rfl)).trans hn0
   rw [zCX] at hn0'
   obtain ⟨pa,ca,rfl⟩:=OwnR.shape hown
   have Htk:=zh htk
   have Hown:=zh (OwnR.keep hown fun j hj=>alloc_was wr (.cells #[.string ⟨y.n.toArray⟩] 9) (OwnR.lt hown hj))
   have Hnew:=zh hnew
   have Hbel:=zh (hbel.alloc hbel.size (.cells #[.string ⟨y.n.toArray⟩] 9))
   have Hstr:=zh (str_one (w:=wr) y.n)
   clear hown hnew hbel hc hn0 hy hyn htk hkl
   generalize y.n=x at *
   go_wp2_with (at_builtin;refine zAR (wr.alloc (.cells #[.string ⟨x.toArray⟩] 9)) rfl (.tmp 14) (.tmp 23) 141 rfl 9 i0 (.string ⟨#[]⟩) 1 16 Tryz.underlying141 hi hz0 hz1 hz2 rfl (by decide) (.slice pa k ca) k _ rfl Hown.out (.slice (some ⟨wr.heap.size,0,none⟩) 1 1) 1 [encStr x] rfl Hstr.out (fun u hu=>by simp at hu;subst hu;rfl) (by unfold maxLen;omega) (by omega) ?_;intro v12 w12 hown12 hgrow12 hloc12;have X12:=zh (And.intro hown12 (And.intro hgrow12 hloc12));clear hown12 hgrow12 hloc12)
   go_roundw
   case rel =>
    refine ⟨k+1,by omega,by go_num,?_,zAj X12.out.2.2 Hnew.out Hbel.out.size,Hbel.out.grown X12.out.2.1 Hbel.out.size (fun j hj=>Hnew.out j hj)⟩
    have h1:=X12.out.1
    rw [Htk.out,List.map_append]
    exact h1
   case measure=>simp [intOf];omega
  ·have hkN:k=N:=by omega
   subst hkN
   have e:(L.map zAF.n).take k=L.map zAF.n:=List.take_of_length_le (by rw [HNn.out];exact Nat.le_refl _)
   rw [e] at hown
   obtain ⟨pa,ca,rfl⟩:=OwnR.shape hown
   have Hf:=zh (show Listed w D (.returned (.slice pa k ca)) wr from ⟨_,rfl,by unfold OwnN;rw [Hnames.out,HNn.out];exact hown,hnew,hbel⟩)
   clear hown hnew hbel
   go_wp2_with fail
   go_ret
   exact Hf.out
end
def b12':Bs:=[49,50]
def b3':Bs:=[51]
def b123:Bs:=[49,50,51]
def Q0:zAA:=zAA.fresh 1000
def Q1:zAA:=⟨1000,[([97],⟨zAG b123,(zAG b123).length⟩)],none⟩
theorem q1:Q0.save (nm sA) [b12',b3'].flatten=(Q1,0) :=
 save_all (D:=Q0) (n:=[97]) (l:=b123) (ok_fresh 1000 (by decide)) (fun j h=>by cases h) (by decide) (by decide) rfl (by decide) (by decide)
theorem q2 (k:Int):Sat.get (nm sA) (Q1.crash k).files=some ⟨zAG b123,(zAG b123).length⟩:=get_crash_whole (D:=Q1) (n:=[97]) rfl k
def fl (x:Bs):zAP:=⟨zAG x,(zAG x).length⟩
theorem each_one (g:Bs→zAP→List (Bs × zAP)→List (Bs × zAP)) (D:zAA) (n:Bs):D.each g [n]=D.each1 g n:=by
 cases h:D.each1 g n with
 | mk D1 e1 =>
  unfold zAA.each
  rw [h]
  by_cases he:e1=0
  ·subst he
   rw [if_pos rfl]
   rfl
  ·rw [if_neg he]
section
variable {a b c:Bs}
end
end Go.Proofs.YtapfnehdgailmaaGreat
namespace Go.Sat
open Go.RowKit
theorem OwnR.set {w:World} {e:TypeId} {size:Nat} {v:Value} {n:Nat} {xs:List Value} (h:OwnR w e size v n xs) {g:Nat} (hg:v.ownBlock=some g) (j:Nat) (u:Value):OwnR (w.setCell ⟨g,j,none⟩ u) e size v n (xs.set j u):=by
 refine ⟨by rw [List.length_set];exact h.1,?_⟩
 rcases h.2 with ⟨rfl,_⟩ | ⟨g',cap,cur,rfl,hgg,hnc,hcm,hcs,ht⟩
 ·cases hg
 ·cases hg
  refine .inr ⟨g',cap,cur.setIfInBounds j u,rfl,zAO hgg j u,hnc,hcm,by simpa using hcs,?_⟩
  rw [← ht,Array.toList_setIfInBounds,List.take_set]
end Go.Sat
namespace Go.Proofs.YtapfnehdgailmaaGreat
open Go.RowKit Go.Sat Go.Maps
theorem cells_set (L:List zAF) (i:Nat) (x x':zAF) (h:L[i]?=some x) (j:Nat) (hj:j < 3) (u:Value) (hc:x'.cells=x.cells.set j u):(L.flatMap zAF.cells).set (i * 3+j) u=(L.set i x').flatMap zAF.cells:=by
 induction L generalizing i with
 | nil=>simp at h
 | cons y r ih =>
  have hy:y.cells.length=3:=rfl
  rw [List.flatMap_cons]
  cases i with
  | zero =>
   simp at h
   subst h
   rw [List.set_cons_zero,List.flatMap_cons,hc,List.set_append_left _ _ (by omega),Nat.zero_mul,Nat.zero_add]
  | succ i =>
   rw [List.set_cons_succ,List.flatMap_cons,List.set_append_right _ _ (by omega),← ih i (by simpa using h)]
   congr 2
   omega
structure zAf (w:World) (r:Nat) (v:Value) (L:List zAF) (own:Nat→Prop) (room:Nat) (fuse:Option Nat):Prop where
 cells:w.heap[r]?=some (.cells #[.int .i64 (room:Int),v,.int .i64 (zDT fuse)] 118 (0,0))
 row:OwnR w 127 3 v L.length (L.flatMap zAF.cells)
 data:∀ x ∈ L,OwnB w 5 x.b x.f.data
 or:own r
 ov:∀ k,v.ownBlock=some k→own k∧k≠r
 ob:∀ x ∈ L,∀ k,x.b.ownBlock=some k→own k∧k≠r∧v.ownBlock≠some k
 olt:∀ k,own k→k < w.heap.size
section
variable {w:World} {r:Nat} {v:Value} {L:List zAF} {own:Nat→Prop} {D:zAA} {room:Nat} {fuse:Option Nat}
theorem zAU.core (h:zAU w r v L own D):zAf w r v L own D.room D.fuse:=⟨h.cells,h.row,h.data,h.or,h.ov,h.ob,h.olt⟩
theorem zAf.full (h:zAf w r v L own room fuse) (hr:D.room=room) (hf:D.fuse=fuse) (hL:D.files=L.map zAF.key) (ok:D.OK):zAU w r v L own D:=by
 subst hr
 subst hf
 exact ⟨h.cells,h.row,hL,h.data,h.or,h.ov,h.ob,h.olt,ok⟩
theorem zAf.at (h:zAf w r v L own room fuse) {g:Nat} (hg:v.ownBlock=some g) {i:Nat} {x:zAF} (hx:L[i]?=some x):w.cell? ⟨g,i * 3,none⟩=some (encStr x.n)∧w.cell? ⟨g,i * 3+1,none⟩=some x.b∧w.cell? ⟨g,i * 3+2,none⟩=some (.int .i64 (x.f.lasts:Int)):=by
 have hc:=h.row.cells hg
 refine ⟨?_,?_,?_⟩
 ·have:=hc (i * 3+0) (encStr x.n) ((zDF L i x hx 0 (by omega)).trans rfl)
  rwa [add_zero] at this
 ·have:=hc (i * 3+1) x.b ((zDF L i x hx 1 (by omega)).trans rfl)
  rwa [add_zero] at this
 ·have:=hc (i * 3+2) _ ((zDF L i x hx 2 (by omega)).trans rfl)
  rwa [add_zero] at this
theorem mem_set {α:Type} {L:List α} {i:Nat} {x' y:α} (h:y ∈ L.set i x'):y ∈ L∨y=x':=List.mem_or_eq_of_mem_set h
theorem zAf.store (h:zAf w r v L own room fuse) {g:Nat} (hg:v.ownBlock=some g) {i:Nat} {x:zAF} (hx:L[i]?=some x) (j:Nat) (hj:j < 3) (u:Value) (x':zAF) (hc:x'.cells=x.cells.set j u)
  {own':Nat→Prop} (hown:∀ k,own k→own' k) (hd:OwnB w 5 x'.b x'.f.data) (hb:∀ k,x'.b.ownBlock=some k→own' k∧k≠r∧k≠g) (holt:∀ k,own' k→k < w.heap.size) :
  zAf (w.setCell ⟨g,i * 3+j,none⟩ u) r v (L.set i x') own' room fuse where
 cells:=(zAE u (h.ov g hg).2.symm).trans h.cells
 row:=by
  rw [List.length_set,← cells_set L i x x' hx j hj u hc]
  exact h.row.set hg _ _
 data:=fun y hy=>by
  rcases mem_set hy with hy | rfl
  ·exact OwnR.keep (h.data y hy) fun k hk=>zAE u (fun e=>(h.ob y hy k hk).2.2 (by rw [hg];exact congrArg some e.symm))
  ·exact OwnR.keep hd fun k hk=>zAE u (hb k hk).2.2
 or:=hown r h.or
 ov:=fun k hk=>⟨hown k (h.ov k hk).1,(h.ov k hk).2⟩
 ob:=fun y hy k hk=>by
  rcases mem_set hy with hy | rfl
  ·exact ⟨hown k (h.ob y hy k hk).1,(h.ob y hy k hk).2⟩
  ·exact ⟨(hb k hk).1,(hb k hk).2.1,fun e=>(hb k hk).2.2 (Option.some.inj (e.symm.trans hg))⟩
 olt:=fun k hk=>by
  have:=holt k hk
  simpa [World.setCell] using this
theorem zAf.free (h:zAf w r v L own room fuse) {g:Nat} (hg:v.ownBlock=some g) (j:Nat):w.frozen? ⟨g,j,none⟩=false:=by
 rcases h.row.2 with ⟨rfl,_⟩ | ⟨g',cap,cur,rfl,hgg,_⟩
 ·cases hg
 ·cases hg
  exact zAI hgg j
def zBi (w:World) (r:Nat) (own:Nat→Prop) (R:zAA × Nat) (e:Ending) (w':World):Prop :=
 e=.returned (.int .i64 (R.2:Int))∧∃ own',RefAt w' r R.1 own'∧Chg own w w'∧∀ k,own' k→own k∨w.heap.size≤k
theorem zAU.below (h:zAU w r v L own D) {w':World} (hb:Below w.heap.size w w'):zAU w' r v L own D:=h.keep hb.size fun k hk=>hb.block k (h.olt k hk)
theorem zBk {w' w'':World} (hb:Below w.heap.size w w') (hc:Chg own w' w''):Chg own w w'' :=
 ((Chg.of_below hb).mono fun _ _ h=>h.elim).trans hc fun _ _ h=>h
theorem zA0 (h:zAU w r v L own D) {w':World} (hb:Below w.heap.size w w') (k:Nat):zBi w r own (D,k) (.returned (.int .i64 (k:Int))) w' :=
 ⟨rfl,own,⟨v,L,h.below hb⟩,(Chg.of_below hb).mono fun _ _ h=>h.elim,fun _ h=>.inl h⟩
theorem zAe (w:World) (o:Obj) (q:Nat):Below w.heap.size w ((w.alloc o).drewN q):=((Below.refl _ _).alloc (Nat.le_refl _) o).trans ⟨rfl,rfl,rfl,Nat.le_refl _,fun _ _=>rfl⟩
theorem zDM {ns:List Bs} (h:D.may ns=0):D.fuse≠some 0:=fun e=>by
 unfold zAA.may at h
 rw [if_pos e] at h
 cases h
theorem zCK {D1:zAA} {v':Value} {L':List zAF} {own':Nat→Prop} {w1 w2:World} {e:Ending} (hc:Chg own w w1) (hx:∀ k,own' k→own k∨w.heap.size≤k) (_ho:w.heap.size≤w1.heap.size)
  (h:e=.returned (.int .i64 0)∧zAU w2 r v' L' own' D1.done∧Chg own' w1 w2):zBi w r own (D1.done,0) e w2:=by
 obtain ⟨rfl,h2,hc2⟩:=h
 refine ⟨rfl,own',⟨v',L',h2⟩,hc.trans hc2 fun k hk hT=>?_,hx⟩
 rcases hx k hT with h | h
 ·exact h
 ·omega
theorem map_set_key (L:List zAF) (i:Nat) (x:zAF):(L.set i x).map zAF.key=(L.map zAF.key).set i x.key:=List.map_set ..
theorem zAU.put (h:zAU w r v L own D) {n:Bs} {f:zAP} (hg:Sat.get n D.files=some f) (x':zAF) (hn:x'.n=n):put n x'.f D.files=(L.set (zAl n (L.map zAF.n)) x').map zAF.key:=by
 have h1:isAt n (D.files.map (·.1))=true:=by rw [(zD2 n h.ok.srt).1,hg];rfl
 rw [put_at n x'.f h.ok.srt h1,map_set_key,← h.files,h.names]
 unfold zAF.key
 rw [hn]
theorem zCL (h:zAU w r v L own D) (s:ByteArray) (hs:s.size≤9223372036854775807) :
  Calls Tryz.prog 91 #[.pointer (some ⟨r,0,none⟩),.string s] w (zBi w r own (D.sync [nm s])):=by
 have h1:zAU (w.alloc (.cells #[.string s] 9)) r v L own D:=h.below ((Below.refl _ _).alloc (Nat.le_refl _) _)
 have hmay:=zBg h1 (some ⟨w.heap.size,0,none⟩) [s] 1 (zA4 w s) (by simp) (by simpa using hs)
 simp only [List.map_cons,List.map_nil] at hmay
 unfold zAA.sync
 rw [each_one]
 by_cases hm:D.may [nm s]=0
 ·have hsp:=zBL h1 s
  rw [h.is] at hsp
  rw [hm] at hmay
  cases hg:Sat.get (nm s) D.files with
  | none =>
   rw [hg] at hsp
   have hR:zAA.each1 zAA.gSync D (nm s)=(D,7):=by unfold zAA.each1;rw [if_neg (by rw [hm];simp),hg]
   rw [hR]
   have Hf:=zh (fun q=>zA0 h (zAe w (.cells #[.string s] 9) q) 7)
   have Hmay:=zh hmay
   have Hsp:=zh hsp
   clear h h1 hmay hsp hm hR hg
   go_enter Tryz.func91,Tryz.ntmps91
   go_wp2_with fail
   refine Hmay.out.mono ?_
   rintro e w2 ⟨rfl,rfl⟩
   go_wp2_with fail
   refine Hsp.out.mono ?_
   rintro e w3 ⟨rfl,q,rfl⟩
   go_wp2_with fail
   go_ret
   exact Hf.out q
  | some f =>
   rw [hg] at hsp
   obtain ⟨x,hx,hxn,rfl⟩:=h.hit hg
   have hlm:=h.len_le hx
   have hput:=h.put hg ⟨x.n,x.b,⟨x.f.data,x.f.data.length⟩⟩ hxn
   have hxm:=List.mem_of_getElem? hx
   have hN:zAl (nm s) (L.map zAF.n) < L.length:=(List.getElem?_eq_some_iff.1 hx).1
   have hR:zAA.each1 zAA.gSync D (nm s)=(zAA.done { D with files:=zAA.gSync (nm s) x.f D.files },0):=by unfold zAA.each1;rw [if_neg (by rw [hm];simp),hg]
   rw [hR]
   have hok:=ok_sync h.ok hg
   generalize zAl (nm s) (L.map zAF.n)=i at *
   have hFin:∀ W g,Below w.heap.size w W→v.ownBlock=some g→zAU (W.setCell ⟨g,i * 3+2,none⟩ (.int .i64 (x.f.data.length:Int))) r v (L.set i ⟨x.n,x.b,⟨x.f.data,x.f.data.length⟩⟩) own { D with files:=zAA.gSync (nm s) x.f D.files }:=fun W g hbW hgv=>by
    have hW:=(h.below hbW).core
    exact (hW.store hgv hx 2 (by omega) _ ⟨x.n,x.b,⟨x.f.data,x.f.data.length⟩⟩ rfl (fun _ h=>h) (hW.data x hxm) (fun k hk=>⟨(h.ob x hxm k hk).1,(h.ob x hxm k hk).2.1,fun e=>(h.ob x hxm k hk).2.2 (by rw [hgv,e])⟩) hW.olt).full rfl rfl hput hok
   have hCh:∀ W g,Below w.heap.size w W→v.ownBlock=some g→Chg own w (W.setCell ⟨g,i * 3+2,none⟩ (.int .i64 (x.f.data.length:Int))):=fun W g hbW hgv=>zBk hbW (zCW (h.ov g hgv).1)
   rcases h.at with h0 | ⟨g,c0,rfl,hlc,-⟩
   ·rw [h0] at hN
    simp at hN
   have hDid:=fun W hbW=>zBs (hFin W g hbW rfl) (zDM hm)
   have hCh':=fun W hbW=>hCh W g hbW rfl
   have hcell:∀ W,Below w.heap.size w W→(W.cell? ⟨r,1,none⟩=some (.slice (some ⟨g,0,none⟩) L.length c0)∧W.cell? ⟨g,i * 3+1,none⟩=some x.b∧W.cell? ⟨g,i * 3+2,none⟩=some (.int .i64 (x.f.lasts:Int))∧W.frozen? ⟨g,i * 3+2,none⟩=false):=fun W hbW=>by
    have hW:=h.below hbW
    exact ⟨hW.c1,(hW.core.at rfl hx).2.1,(hW.core.at rfl hx).2.2,hW.core.free rfl _⟩
   obtain ⟨pb,cb,eb⟩:=HasB.slice (h.data x hxm).has
   rw [eb] at hcell
   generalize x.f.data.length=m at *
   have HDid:=zh (And.intro hDid hCh')
   have Hcell:=zh hcell
   have Hmay:=zh hmay
   have Hsp:=zh hsp
   clear h h1 hmay hsp hm hR hg hput hok hFin hCh hDid hCh' hcell hx hxm eb
   go_enter Tryz.func91,Tryz.ntmps91
   go_wp2_with fail
   refine Hmay.out.mono ?_
   rintro e w2 ⟨rfl,rfl⟩
   go_wp2_with fail
   refine Hsp.out.mono ?_
   rintro e w3 ⟨rfl,q,rfl⟩
   have HbW:=zh (zAe w (.cells #[.string s] 9) q)
   generalize (w.alloc (.cells #[.string s] 9)).drewN q=W at *
   obtain ⟨hc1,hc2,hc3,hfz⟩:=Hcell.out W HbW.out
   go_wp2_with fail
   go_still_tail 14,(by kernel_rfl)
   change wpList _ _ _ _ _ W.drew
   have hbD:Below w.heap.size w W.drew:=HbW.out.trans ⟨rfl,rfl,rfl,Nat.le_refl _,fun _ _=>rfl⟩
   obtain ⟨hc1,hc2,hc3,hfz⟩:=Hcell.out _ hbD
   have Hdid:=zh (HDid.out.1 _ hbD)
   have Hch:=zh (HDid.out.2 _ hbD)
   clear Hcell HDid hbD
   generalize W.drew=Wd at *
   go_wp2_with fail
   refine Hdid.out.mono ?_
   intro e w4 h4
   have hE:=zCK Hch.out (fun _ h=>.inl h) Hch.out.size h4
   obtain ⟨rfl,-⟩:=h4
   have HE:=zh hE
   clear hE
   go_wp2_with fail
   go_ret
   exact HE.out
 ·have hR:zAA.each1 zAA.gSync D (nm s)=(D,D.may [nm s]):=by unfold zAA.each1;rw [if_pos hm]
  rw [hR]
  have Hf:=zh (zA0 h ((Below.refl _ _).alloc (Nat.le_refl _) (.cells #[.string s] 9)) (D.may [nm s]))
  have Hmay:=zh hmay
  generalize D.may [nm s]=m at *
  have hne:((m:Int) != 0)=true:=by simp;omega
  clear h h1 hmay hR
  go_enter Tryz.func91,Tryz.ntmps91
  go_wp2_with fail
  refine Hmay.out.mono ?_
  rintro e w2 ⟨rfl,rfl⟩
  go_wp2_with fail
  go_ret
  exact Hf.out
end
end Go.Proofs.YtapfnehdgailmaaGreat
