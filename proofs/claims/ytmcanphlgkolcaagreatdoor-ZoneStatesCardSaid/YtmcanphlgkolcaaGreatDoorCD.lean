/- What the program's functions and the document's do, and plain laws, for PZoneStates. -/
import Derived.Deep.RegionHeld3
import Derived.OwnWalk
import Derived.RangeFuncGives
import Derived.Test.YtmcanphlgkolcaaGreatDoorCB
import Derived.Test.YtmcanphlgkolcaaGreatDoorCC
import Derived.Test.YtmcanphlgkolcaaGreatDoorCIter
import Derived.Test.YtmcanphlgkolcaaGreatDoorCShelf
import Derived.Test.YtmcanphlgkolcaaGreatDoorCShelfI
open Go.Proofs.Tryz
set_option maxRecDepth 100000
set_option maxHeartbeats 64000000
namespace Go.Sat
open Go.RowKit Go.Maps
theorem bb_lt:∀(a b:Bs),bytesBefore a b=true↔a<b
 | [],[]=>by simp[bytesBefore]
 | [],_::_=>by simp[bytesBefore]
 | _::_,[]=>by simp[bytesBefore]
 | a::r,b::s=>by
  rw[List.cons_lt_cons_iff,←bb_lt r s];simp[bytesBefore]
def Le (x y:Bs):Prop:=bytesBefore y x=false
theorem le_iff (x y:Bs):x≤y↔Le x y:=by
 unfold Le;rw[←Bool.not_eq_true,bb_lt];exact Iff.rfl
theorem le_anti {x y:Bs}(h:Le x y)(k:Le y x):x=y:=by
 by_cases e:x=y
 ·exact e
 ·rcases zEX x y e with b|b
  ·rw[k]at b;cases b
  ·rw[h]at b;cases b
theorem le_total (x y:Bs):Le x y∨Le y x:=by
 unfold Le;cases h:bytesBefore y x with
 | false=>exact .inl rfl
 | true =>
  right
  cases b:bytesBefore x y with
  | false=>rfl
  | true =>
   have:=zDU h b;rw[zDK]at this;cases this
theorem le_trans' {x y z:Bs}(h:Le x y)(k:Le y z):Le x z:=by
 by_cases e:x=y
 ·rw[e];exact k
 ·by_cases c:y=z
  ·rw[←c];exact h
  ·have b:bytesBefore x y=true:=by
    rcases zEX x y e with b|b
    ·exact b
    ·rw[h]at b;cases b
   have d:bytesBefore y z=true:=by
    rcases zEX y z c with b|b
    ·exact b
    ·rw[k]at b;cases b
   have f:=zDU b d;unfold Le;cases i:bytesBefore z x with
   | false=>rfl
   | true =>
    have:=zDU f i;rw[zDK]at this;cases this
theorem sorted_uniq:∀{l m:List Bs},l.Perm m→l.Pairwise Le→m.Pairwise Le→l=m
 | [],m,h,_,_=>h.nil_eq
 | a::r,[],h,_,_=>by have:=h.length_eq;simp at this
 | a::r,b::s,h,hl,hm=>by
  rw[List.pairwise_cons]at hl hm;have e:a=b:=by
   have c:a∈b::s:=h.subset (List.mem_cons_self ..);have d:b∈a::r:=h.symm.subset (List.mem_cons_self ..);rcases List.mem_cons.1 c with e|c
   ·exact e
   ·rcases List.mem_cons.1 d with e|d
    ·exact e.symm
    ·exact le_anti (hl.1 b d) (hm.1 a c)
  subst e;rw[sorted_uniq (List.Perm.cons_inv h) hl.2 hm.2]
theorem keys_sorted {α:Type}{L:List (Bs×α)}(h:Srt L):(L.map (·.1)).Pairwise Le:=by
 rw[List.pairwise_map];refine h.imp fun {p q} hpq=>?_;unfold Le;cases b:bytesBefore q.1 p.1 with
 | false=>rfl
 | true =>
  have:=zDU hpq b;rw[zDK]at this;cases this
theorem merge_keys {α:Type}{L:List (Bs×α)}(h:Srt L){d:List Bs}(j:d.Perm (L.map (·.1))):d.mergeSort (fun x y=>decide (x≤y))=L.map (·.1):=by
 refine sorted_uniq ((List.mergeSort_perm d _).trans j) ?_ (keys_sorted h);have:=List.pairwise_mergeSort (le:=fun x y:Bs=>decide (x≤y)) (fun a b c f i=>by
  simp only[decide_eq_true_eq,le_iff]at *;exact le_trans' f i) (fun a b=>by
  simp only[Bool.or_eq_true,decide_eq_true_eq,le_iff];exact le_total a b) d
 exact this.imp fun {a b} hab=>by simpa only[decide_eq_true_eq,le_iff]using hab
theorem keys_dm {H α:Type}(g:α→DataW H)(L:List (Bs×α)):strKeys (dm g L)=L.map (·.1):=by
 simp only[strKeys,dm,List.map_map];exact List.map_congr_left fun p _=>rfl
end Go.Sat
namespace Go.Proofs.YtmcanphlgkolcaaGreatDoor
open Go.RowKit Go.Sat Go.Maps
def OwnN (w:World)(v:Value)(ns:List Bs):Prop:=OwnR w 9 1 v ns.length (ns.map encStr)
def zDG (D:zAD):List Bs:=D.files.map (·.1)
def Listed (w:World)(D:zAD)(e:Ending)(w':World):Prop:=∃v,e=.returned v∧OwnN w' v (zDG D)∧(∀k,v.ownBlock=some k→w.heap.size≤k)∧Below w.heap.size w w'
section
variable {w:World} {d m:Nat} {left:Int} {L:List (Bs×zBn)} {own:Own} {D:zAD}
theorem list_calls (h:zB6 w d D own):Calls prog 188 #[.pointer (some ⟨d,0,none⟩)] w (Listed w D):=by
 obtain⟨m,left,L,h⟩:=h;have a:=h.c1;have b:L.length≤4096:=by rw[←h.len];exact h.ok.count
 have c:∀(v:Value) (j:List Bs) (w':World),j.Perm (strKeys (dm fbD L))→w'.ownsRow (w.alloc (.cells #[.map (some m)] 69)).heap.size 9 1 v j.length ((j.mergeSort (fun x y=>decide (x≤y))).map encStr) →
   Below (w.alloc (.cells #[.map (some m)] 69)).heap.size (w.alloc (.cells #[.map (some m)] 69)) w'→Listed w D (.returned v) w':=by
  intro v j w' f i q;rw[keys_dm]at f;rw[merge_keys h.srt f,f.length_eq]at i;refine⟨v,rfl,?_,fun k A=>?_,((Below.refl _ _).alloc (Nat.le_refl _) _).trans (q.mono (by simp))⟩
  ·have e:zDG D=L.map (·.1):=by
    unfold zDG;rw[h.files];simp[mp]
   unfold OwnN;rw[e];exact OwnR.of_kit i
  ·have:=OwnR.block_ge i A;simp at this;omega
 have hS:=(callsIn_wide (n:=5)).1 (Tryz.slices_Sorted_keys_132_221 m L.length (dm fbD L) ptrR w h.map (by rw[dm_size];unfold maxLen;omega) (by rw[dm_size];omega));have r:=(callsIn_wide (n:=5)).1 (Tryz.maps_Keys_221 (some m) w);have p:=zh c;have t:=zh hS;have s:=zh r;clear c hS r h b
 go_enter func188,ntmps188
 go_wp2_with fail;refine s.o.mono ?_;rintro e w' ⟨rfl,rfl⟩;go_wp2_with fail;refine t.o.mono ?_;rintro e w' ⟨v,j,rfl,f,i,-,q⟩;have z:=zh (p.o v j w' f i q);clear f i q;go_wp2_with fail;go_ret;exact z.o
end
def ListedS (w:World)(d:Nat)(D:zAD)(F:Nat→Prop)(w1:World)(e:Ending)(w':World):Prop :=
 ∃v,e=.returned v∧OwnN w' v (zDG D)∧(∀k,v.ownBlock=some k→w1.heap.size≤k)∧Below w1.heap.size w1 w'∧St w w' d D F
theorem st_list {w w1:World}{d:Nat}{D:zAD}{F:Nat→Prop}(h:St w w1 d D F) :
  Calls prog 188 #[.pointer (some ⟨d,0,none⟩)] w1 (ListedS w d D F w1):=by
 have c:=h;obtain⟨own,f,k,i,hF⟩:=h;refine(list_calls f).mono ?_;rintro e w' ⟨v,rfl,j,hn,b⟩;exact⟨v,rfl,j,hn,b,c.next b⟩
theorem zEj {w:World}{P:Program}{k:TypeId}(f:P.underlying k=some .string){α:Type}{E:ElemR α}{b:Nat}{V:List (Bs×α)}(h:zAd w P k (strK f) E b V) :
  ∃es,w.ownsMap P k E.R b V.length (.map es)∧(strKeys (.map es)).Perm (V.map (·.1))∧Maps.size (DataW.map es)=V.length:=by
 obtain⟨es,d,c,i,j⟩:=h;refine⟨es,d,?_,?_⟩
 ·have:=c.map (fun p=>strOf p.1);rw[List.map_map]at this;exact this
 ·rw[Maps.size_eq,c.length_eq,List.length_map]
def SortedN (w:World)(V:List Bs)(e:Ending)(w':World):Prop:=∃v,e=.returned v∧OwnN w' v V∧(∀k,v.ownBlock=some k→w.heap.size≤k)∧Below w.heap.size w w'
theorem vkeys_fin {w:World}{α:Type}{V:List (Bs×α)}(n:KSrt V){d:Nat}{t:TypeId}{v:Value}{b:List Bs}{w':World}(f:b.Perm (V.map (·.1)))
  (c:w'.ownsRow (w.alloc (.cells #[.map (some d)] t)).heap.size 9 1 v b.length ((b.mergeSort (fun x y=>decide (x≤y))).map encStr))
  (i:Below (w.alloc (.cells #[.map (some d)] t)).heap.size (w.alloc (.cells #[.map (some d)] t)) w'):SortedN w (V.map (·.1)) (.returned v) w':=by
 have m:b.length=(V.map (·.1)).length:=f.length_eq;rw[merge_keys (L:=V) n f,m]at c;refine⟨v,rfl,OwnR.of_kit c,fun k j=>?_,((Below.refl _ _).alloc (Nat.le_refl _) _).trans (i.mono (by simp))⟩;have:=OwnR.block_ge c j;simp at this;omega
theorem vsorted_calls {w:World}{b:Nat}{V:List (Bs×It)}(h:zAd w prog 9 (strK underlying9) itE b V)(hn:V.length≤1099511627776) :
  Calls prog 132 #[.func (.func 238) #[] #[.pointer (some ⟨w.heap.size,0,none⟩)]] (w.alloc (.cells #[.map (some b)] 239)) (SortedN w (V.map (·.1))):=by
 obtain⟨es,d,f,c⟩:=zEj _ h;refine((callsIn_wide (n:=5)).1 (Tryz.slices_Sorted_keys_132_205 b V.length (.map es) itE.R w d (by rw[c];unfold maxLen;omega) (by rw[c];omega))).mono ?_;rintro e w' ⟨v,m,rfl,j,k,-,i⟩;exact vkeys_fin h.srt (j.trans f) k i
theorem vkeys_calls (w:World)(b:Nat) :
  Calls prog 205 #[.map (some b)] w fun e w'=>e=.returned (.func (.func 238) #[] #[.pointer (some ⟨w.heap.size,0,none⟩)])∧w'=w.alloc (.cells #[.map (some b)] 239) :=
 (callsIn_wide (n:=5)).1 (Tryz.maps_Keys_205 (some b) w)
def pileP (bb k:Nat):List Value:=(List.range k).flatMap fun i=>[.pointer (some ⟨bb,i,none⟩),.pointer (some ⟨bb,4+i,none⟩)]
theorem pileP_succ (bb k:Nat):pileP bb (k+1)=pileP bb k++[.pointer (some ⟨bb,k,none⟩),.pointer (some ⟨bb,4+k,none⟩)]:=by
 unfold pileP;rw[List.range_succ,List.flatMap_append];rfl
def PileR (w wr:World)(v:Value)(bb k:Nat):Prop:=OwnR wr 307 1 v (2*k) (pileP bb k)∧Below w.heap.size w wr∧∀j,v.ownBlock=some j→w.heap.size≤j
theorem pile_box {k:Nat}{w wr:World}{v:Value}{bb:Nat}(h:PileR w wr v bb k)(_k':Nat) :
  OwnR (wr.drew.alloc (.cells #[.pointer (some ⟨bb,k,none⟩),.pointer (some ⟨bb,4+k,none⟩)] 307)) 307 1 v (2*k) (pileP bb k) ∧
  zBH (wr.drew.alloc (.cells #[.pointer (some ⟨bb,k,none⟩),.pointer (some ⟨bb,4+k,none⟩)] 307)) 1 (.slice (some ⟨wr.drew.heap.size,0,none⟩) 2 2) 2 [.pointer (some ⟨bb,k,none⟩),.pointer (some ⟨bb,4+k,none⟩)] ∧
  ∀v' w',OwnR w' 307 1 v' (2*k+2) (pileP bb k++[.pointer (some ⟨bb,k,none⟩),.pointer (some ⟨bb,4+k,none⟩)])→(wr.drew.alloc (.cells #[.pointer (some ⟨bb,k,none⟩),.pointer (some ⟨bb,4+k,none⟩)] 307)).grownBy w' v.ownBlock→(v'.ownBlock=v.ownBlock∨∃g,v'.ownBlock=some g∧(wr.drew.alloc (.cells #[.pointer (some ⟨bb,k,none⟩),.pointer (some ⟨bb,4+k,none⟩)] 307)).heap.size≤g)→PileR w w' v' bb (k+1):=by
 obtain⟨m,n,o⟩:=h;have p:=zAC wr.drew (.cells #[.pointer (some ⟨bb,k,none⟩),.pointer (some ⟨bb,4+k,none⟩)] 307);have hn:=zAF wr.drew (.cells #[.pointer (some ⟨bb,k,none⟩),.pointer (some ⟨bb,4+k,none⟩)] 307);refine⟨m.keep fun j c=>p.block j (OwnR.lt m c),⟨rfl,some ⟨wr.drew.heap.size,0,none⟩,2,rfl,fun e=>(by cases e),fun a s i u d=>?_⟩,fun v' w' q r f=>?_⟩
 ·cases s;rw[add_zero]
  match i,d with
  | 0,d=>cases d;exact zAB hn rfl
  | 1,d=>cases d;exact zAB hn rfl
  | i+2,d=>simp at d
 ·have b:Below w.heap.size w (wr.drew.alloc (.cells #[.pointer (some ⟨bb,k,none⟩),.pointer (some ⟨bb,4+k,none⟩)] 307)):=n.trans ((⟨rfl,rfl,rfl,Nat.le_refl _,fun _ _=>rfl⟩:Below w.heap.size wr wr.drew).trans (p.mono n.size));refine⟨by rw[pileP_succ];exact q,b.grown r b.size ?_,fun j c=>?_⟩
  ·intro j c;exact o j c
  ·rcases f with f|⟨g,f,t⟩
   ·exact o j (f▸c)
   ·rw[f]at c;cases c;exact Nat.le_trans b.size t
theorem piles_calls (w:World)(bb:Nat) :
  Calls prog 229 #[.pointer (some ⟨bb,0,none⟩)] w fun e w'=>∃v,e=.returned v∧PileR w w' v bb 4:=by
 obtain⟨h,a,r,s,t⟩:=info_parts (show(prog.info? 307).map (fun i=>(i.zero,i.size,i.bytes))=some (some (.pointer none),1,8) by kernel_rfl)
 go_enter func229,ntmps229
 go_wp2_with fail
 go_loopw [3,5] (fun v i wr=>∃k:Nat,k≤4∧i=.int .i64 k∧PileR w wr v bb k) (fun _ i _=>4-(intOf i).toNat)
 case atStart=>exact⟨0,by omega,rfl,OwnR.nil _ _ _,Below.refl _ _,fun j C=>by cases C⟩
 case round =>
  obtain⟨k,D,rfl,B⟩:=hrel;obtain⟨A,z,rfl⟩:=OwnR.shape B.1;have y:=zh B;clear B;rcases(by omega:k=0∨k=1∨k=2∨k=3∨k=4)with rfl|rfl|rfl|rfl|rfl
  ·go_wp2_with fail;refine zCy (fun _=>True) (n:=14) (by kernel_rfl) rfl trivial fun _=>?_;refine Pl [0,1,2,3,4,5,6,7,8,9,10] ?_
   iterate 11 (refine Pc rfl ?_;simp only[uZ])
   refine Pn ?_;refine oon 11 rfl fun K c=>?_;have d:=zh (pile_box y.o 0);go_wp2_with fail;refine c.o _ _ trivial fun b=>?_;clear c
   try simp only[uZ]
   refine oon 12 rfl fun K c=>?_;refine zCg (.tmp 8) (.tmp 19) 323 rfl 307 h (.pointer none) 1 8 underlying323 a r s t rfl (by decide) (.slice A (2*0) z) (2*0) (pileP bb 0) rfl d.o.1 (.slice (some ⟨wr.drew.heap.size,0,none⟩) 2 2) 2 [.pointer (some ⟨bb,0,none⟩),.pointer (some ⟨bb,4+0,none⟩)] rfl d.o.2.1 (by intro u q;simp at q;rcases q with rfl|rfl<;>rfl) (by decide) (by decide) ?_;intro v' w' f m p;have H1:=zh (d.o.2.2 v' w' f m p);clear f m p d;refine c.o _ _ trivial fun b=>?_;clear c
   try simp only[uZ]
   refine oon 13 rfl fun K c=>?_;go_wp2_with fail;refine c.o _ _ trivial fun b=>?_;clear c;refine odn ?_;go_wp2_with fail;go_roundw
   case rel=>exact⟨1,by decide,rfl,H1.o⟩
   case measure=>simp[intOf]
  ·go_wp2_with fail;refine zCy (fun _=>True) (n:=14) (by kernel_rfl) rfl trivial fun _=>?_;refine Pl [0,1,2,3,4,5,6,7,8,9,10] ?_
   iterate 11 (refine Pc rfl ?_;simp only[uZ])
   refine Pn ?_;refine oon 11 rfl fun K c=>?_;have d:=zh (pile_box y.o 1);go_wp2_with fail;refine c.o _ _ trivial fun b=>?_;clear c
   try simp only[uZ]
   refine oon 12 rfl fun K c=>?_;refine zCg (.tmp 8) (.tmp 19) 323 rfl 307 h (.pointer none) 1 8 underlying323 a r s t rfl (by decide) (.slice A (2*1) z) (2*1) (pileP bb 1) rfl d.o.1 (.slice (some ⟨wr.drew.heap.size,0,none⟩) 2 2) 2 [.pointer (some ⟨bb,1,none⟩),.pointer (some ⟨bb,4+1,none⟩)] rfl d.o.2.1 (by intro u q;simp at q;rcases q with rfl|rfl<;>rfl) (by decide) (by decide) ?_;intro v' w' f m p;have H1:=zh (d.o.2.2 v' w' f m p);clear f m p d;refine c.o _ _ trivial fun b=>?_;clear c
   try simp only[uZ]
   refine oon 13 rfl fun K c=>?_;go_wp2_with fail;refine c.o _ _ trivial fun b=>?_;clear c;refine odn ?_;go_wp2_with fail;go_roundw
   case rel=>exact⟨2,by decide,rfl,H1.o⟩
   case measure=>simp[intOf]
  ·go_wp2_with fail;refine zCy (fun _=>True) (n:=14) (by kernel_rfl) rfl trivial fun _=>?_;refine Pl [0,1,2,3,4,5,6,7,8,9,10] ?_
   iterate 11 (refine Pc rfl ?_;simp only[uZ])
   refine Pn ?_;refine oon 11 rfl fun K c=>?_;have d:=zh (pile_box y.o 2);go_wp2_with fail;refine c.o _ _ trivial fun b=>?_;clear c
   try simp only[uZ]
   refine oon 12 rfl fun K c=>?_;refine zCg (.tmp 8) (.tmp 19) 323 rfl 307 h (.pointer none) 1 8 underlying323 a r s t rfl (by decide) (.slice A (2*2) z) (2*2) (pileP bb 2) rfl d.o.1 (.slice (some ⟨wr.drew.heap.size,0,none⟩) 2 2) 2 [.pointer (some ⟨bb,2,none⟩),.pointer (some ⟨bb,4+2,none⟩)] rfl d.o.2.1 (by intro u q;simp at q;rcases q with rfl|rfl<;>rfl) (by decide) (by decide) ?_;intro v' w' f m p;have H1:=zh (d.o.2.2 v' w' f m p);clear f m p d;refine c.o _ _ trivial fun b=>?_;clear c
   try simp only[uZ]
   refine oon 13 rfl fun K c=>?_;go_wp2_with fail;refine c.o _ _ trivial fun b=>?_;clear c;refine odn ?_;go_wp2_with fail;go_roundw
   case rel=>exact⟨3,by decide,rfl,H1.o⟩
   case measure=>simp[intOf]
  ·go_wp2_with fail;refine zCy (fun _=>True) (n:=14) (by kernel_rfl) rfl trivial fun _=>?_;refine Pl [0,1,2,3,4,5,6,7,8,9,10] ?_
   iterate 11 (refine Pc rfl ?_;simp only[uZ])
   refine Pn ?_;refine oon 11 rfl fun K c=>?_;have d:=zh (pile_box y.o 3);go_wp2_with fail;refine c.o _ _ trivial fun b=>?_;clear c
   try simp only[uZ]
   refine oon 12 rfl fun K c=>?_;refine zCg (.tmp 8) (.tmp 19) 323 rfl 307 h (.pointer none) 1 8 underlying323 a r s t rfl (by decide) (.slice A (2*3) z) (2*3) (pileP bb 3) rfl d.o.1 (.slice (some ⟨wr.drew.heap.size,0,none⟩) 2 2) 2 [.pointer (some ⟨bb,3,none⟩),.pointer (some ⟨bb,4+3,none⟩)] rfl d.o.2.1 (by intro u q;simp at q;rcases q with rfl|rfl<;>rfl) (by decide) (by decide) ?_;intro v' w' f m p;have H1:=zh (d.o.2.2 v' w' f m p);clear f m p d;refine c.o _ _ trivial fun b=>?_;clear c
   try simp only[uZ]
   refine oon 13 rfl fun K c=>?_;go_wp2_with fail;refine c.o _ _ trivial fun b=>?_;clear c;refine odn ?_;go_wp2_with fail;go_roundw
   case rel=>exact⟨4,by decide,rfl,H1.o⟩
   case measure=>simp[intOf]
  ·go_wp2_with fail;go_ret;exact⟨_,rfl,y.o⟩
theorem insnil_calls (w:World)(f:Value) :
  Calls prog 289 #[.slice none 0 0,.int .i64 0,.int .i64 0,f] w fun e w'=>e=.returned (.tuple #[])∧w'=w:=by
 go_enter func289,ntmps289
 go_wp2_with fail
 go_loopw [8] (fun i wr=>i=.int .i64 1∧wr=w) (fun _ _=>0)
 case atStart=>exact⟨rfl,rfl⟩
 case round =>
  obtain⟨rfl,rfl⟩:=hrel;go_wp2_with fail
  go_end0
  exact⟨rfl,rfl⟩
theorem pdqnil_calls (w:World)(f:Value)(l:Int) :
  Calls prog 274 #[.slice none 0 0,.int .i64 0,.int .i64 0,.int .i64 l,f] w fun e w'=>e=.returned (.tuple #[])∧w'=w:=by
 have b:=zh (insnil_calls w f)
 go_enter func274,ntmps274
 go_wp2_with fail
 go_loopw [1,2] (fun i k wr=>i=.int .i64 0∧k=.int .i64 0∧wr=w) (fun _ _ _=>0)
 case atStart=>exact⟨rfl,rfl,rfl⟩
 case round =>
  obtain⟨rfl,rfl,rfl⟩:=hrel;go_wp2_with fail;refine b.o.mono ?_;rintro e c ⟨rfl,rfl⟩;go_wp2_with fail;refine bodyPost_ret (results_none rfl _ _ _) rfl ?_;exact⟨rfl,rfl⟩
theorem sortnil_calls (w:World)(f:Value) :
  Calls prog 233 #[.slice none 0 0,f] w fun e w'=>e=.returned (.tuple #[])∧w'=w:=by
 have c:=zh (fun l=>pdqnil_calls w f l);have b:=zh (Tryz.bits_Len 0 w (by decide) (by decide))
 go_enter func233,ntmps233
 go_wp2_with fail;refine b.o.mono ?_;rintro e d ⟨rfl,rfl⟩;go_wp2_with fail;refine(c.o _).mono ?_;rintro e d ⟨rfl,rfl⟩;go_wp2_with fail
 go_end0
 exact⟨rfl,rfl⟩
theorem zD9 {w:World}{bb:Nat}(h:w.heap[bb]?=some zD7) :
  Calls prog 202 #[.pointer (some ⟨bb,0,none⟩)] w fun e w'=>e=.returned (.slice none 0 0)∧Below w.heap.size w w':=by
 have z:=zh (piles_calls w bb);have s:=zh h;have a:=zh (fun W f=>sortnil_calls W f);clear h
 go_enter func202,ntmps202
 go_wp2_with fail;refine z.o.mono ?_;rintro e y ⟨v,rfl,p⟩;obtain⟨g,c,rfl,t⟩:∃g c,v=.slice (some ⟨g,0,none⟩) 8 c∧∀(i:Nat) u,(pileP bb 4)[i]?=some u→y.cell? ⟨g,i,none⟩=some u:=by
  rcases p.1.2 with⟨-,B⟩|⟨g,q,cur,e,-⟩
  ·omega
  ·refine⟨g,q,e,fun i u A=>?_⟩;have:=p.1.cells (g:=g) (by rw[e];rfl) i u A;rwa[add_zero]at this
 have r:=zh p.2.1;have n:=(r.o.block bb (zAA s.o)).trans s.o;have d:=zh t;have b:=zh n;clear p t n;go_wp2_with fail
 go_loopw [3,11] (fun v i wr=>∃k:Nat,k≤8∧v=.slice none 0 0∧i=.int .i64 k∧wr=y) (fun _ i _=>8-(intOf i).toNat)
 case atStart=>exact⟨0,by omega,rfl,rfl,rfl⟩
 case round =>
  obtain⟨k,C,rfl,rfl,rfl⟩:=hrel;rcases(by omega:k=0∨k=1∨k=2∨k=3∨k=4∨k=5∨k=6∨k=7∨k=8)with rfl|rfl|rfl|rfl|rfl|rfl|rfl|rfl|rfl
  ·have j:wr.cell? ⟨g,0,none⟩=some (.pointer (some ⟨bb,0,none⟩)):=d.o 0 _ rfl;have m:wr.cell? ⟨bb,0,none⟩=some (.slice none 0 0):=zAB b.o rfl;go_wp2_with fail;go_roundw
   case rel=>exact⟨1,by decide,rfl,rfl,trivial⟩
   case measure=>simp[intOf]
  ·have j:wr.cell? ⟨g,1,none⟩=some (.pointer (some ⟨bb,4,none⟩)):=d.o 1 _ rfl;have m:wr.cell? ⟨bb,4,none⟩=some (.slice none 0 0):=zAB b.o rfl;go_wp2_with fail;go_roundw
   case rel=>exact⟨2,by decide,rfl,rfl,trivial⟩
   case measure=>simp[intOf]
  ·have j:wr.cell? ⟨g,2,none⟩=some (.pointer (some ⟨bb,1,none⟩)):=d.o 2 _ rfl;have m:wr.cell? ⟨bb,1,none⟩=some (.slice none 0 0):=zAB b.o rfl;go_wp2_with fail;go_roundw
   case rel=>exact⟨3,by decide,rfl,rfl,trivial⟩
   case measure=>simp[intOf]
  ·have j:wr.cell? ⟨g,3,none⟩=some (.pointer (some ⟨bb,5,none⟩)):=d.o 3 _ rfl;have m:wr.cell? ⟨bb,5,none⟩=some (.slice none 0 0):=zAB b.o rfl;go_wp2_with fail;go_roundw
   case rel=>exact⟨4,by decide,rfl,rfl,trivial⟩
   case measure=>simp[intOf]
  ·have j:wr.cell? ⟨g,4,none⟩=some (.pointer (some ⟨bb,2,none⟩)):=d.o 4 _ rfl;have m:wr.cell? ⟨bb,2,none⟩=some (.slice none 0 0):=zAB b.o rfl;go_wp2_with fail;go_roundw
   case rel=>exact⟨5,by decide,rfl,rfl,trivial⟩
   case measure=>simp[intOf]
  ·have j:wr.cell? ⟨g,5,none⟩=some (.pointer (some ⟨bb,6,none⟩)):=d.o 5 _ rfl;have m:wr.cell? ⟨bb,6,none⟩=some (.slice none 0 0):=zAB b.o rfl;go_wp2_with fail;go_roundw
   case rel=>exact⟨6,by decide,rfl,rfl,trivial⟩
   case measure=>simp[intOf]
  ·have j:wr.cell? ⟨g,6,none⟩=some (.pointer (some ⟨bb,3,none⟩)):=d.o 6 _ rfl;have m:wr.cell? ⟨bb,3,none⟩=some (.slice none 0 0):=zAB b.o rfl;go_wp2_with fail;go_roundw
   case rel=>exact⟨7,by decide,rfl,rfl,trivial⟩
   case measure=>simp[intOf]
  ·have j:wr.cell? ⟨g,7,none⟩=some (.pointer (some ⟨bb,7,none⟩)):=d.o 7 _ rfl;have m:wr.cell? ⟨bb,7,none⟩=some (.slice none 0 0):=zAB b.o rfl;go_wp2_with fail;go_roundw
   case rel=>exact⟨8,by decide,rfl,rfl,trivial⟩
   case measure=>simp[intOf]
  ·go_wp2_with fail;refine(a.o _ _).mono ?_;rintro e w3 ⟨rfl,rfl⟩;go_wp2_with fail;go_ret;exact⟨rfl,r.o⟩
def holdV (V:List (Bs×It)):List Value:=V.flatMap fun p=>[.string (bsV p.1),.int .i64 p.2.a,.int .i64 p.2.b,.int .i64 p.2.c,.int .i64 p.2.d]
def HoldR (w wr:World)(v:Value)(V:List (Bs×It))(k:Nat):Prop:=OwnR wr 231 5 v k (holdV (V.take k))∧Below w.heap.size w wr∧∀j,v.ownBlock=some j→w.heap.size≤j
def VListed (w:World)(V:List (Bs×It))(e:Ending)(w':World):Prop:=∃v,e=.returned (.tuple #[v,.slice none 0 0,.int .i64 1])∧HoldR w w' v V V.length
theorem holdV_succ {V:List (Bs×It)}{k:Nat}(f:k<V.length):holdV (V.take (k+1))=holdV (V.take k)++[.string (bsV V[k].1),.int .i64 V[k].2.a,.int .i64 V[k].2.b,.int .i64 V[k].2.c,.int .i64 V[k].2.d]:=by
 unfold holdV;rw[List.take_succ_eq_append_getElem f,List.flatMap_append];simp
theorem hold_push {w wr w':World}{v v':Value}{V:List (Bs×It)}{k:Nat}(t:k<V.length)(h:HoldR w wr v V k)
  (q:OwnR w' 231 5 v' (k+1) (holdV (V.take k)++[.string (bsV V[k].1),.int .i64 V[k].2.a,.int .i64 V[k].2.b,.int .i64 V[k].2.c,.int .i64 V[k].2.d])) {o:Obj} (r:(wr.alloc o).grownBy w' v.ownBlock)
  (i:v'.ownBlock=v.ownBlock∨∃g,v'.ownBlock=some g∧(wr.alloc o).heap.size≤g):HoldR w w' v' V (k+1):=by
 obtain⟨y,n,p⟩:=h;have f:Below w.heap.size w (wr.alloc o):=n.trans ((zAC wr o).mono n.size);refine⟨by rw[holdV_succ t];exact q,f.grown r f.size (fun j m=>p j m),fun j m=>?_⟩;rcases i with i|⟨g,i,s⟩
 ·exact p j (i▸m)
 ·rw[i]at m;cases m;exact Nat.le_trans f.size s
theorem holdsLit (w:World)(c:Array Value)(l:List Value)(size n b:Nat)(j:c.toList=l)(hn:n*size=l.length)(t:TypeId)(fr:Nat×Nat) :
  zBH (w.alloc (.cells c t fr)) size (.slice (some ⟨w.heap.size,0,none⟩) n b) n l:=by
 refine⟨hn.symm,some ⟨w.heap.size,0,none⟩,b,rfl,fun e=>(by cases e),fun a f i u d=>?_⟩;cases f;rw[add_zero];have hn:=zAF w (.cells c t fr);refine zAB hn ?_;rw[←j]at d;simpa using d
def VGo (w:World)(vb bb:Nat)(w':World):Prop:=w'.cell? ⟨vb,1,none⟩=some (.pointer (some ⟨bb,0,none⟩))∧w'.cell? ⟨vb,2,none⟩=some (.int .i64 1)∧Below w.heap.size w w'
theorem VGo.bel {w w':World}{vb bb:Nat}(h:VGo w vb bb w'):Below w.heap.size w w':=h.2.2
theorem VGo.go {w w1 d:World}{vb i bb:Nat}(c:w.heap[vb]?=some (VaultO i bb))(h:VGo w vb bb w1)(f:Below w1.heap.size w1 d):VGo w vb bb d:=by
 have b:=h.2.2.trans (f.mono h.2.2.size);have:=(b.block vb (zAA c)).trans c;exact⟨zAB this rfl,zAB this rfl,b⟩
theorem its_at {V:List (Bs×It)}(c:KSrt V){k:Nat}(b:k<V.length):zAb V (bsV V[k].1)=V[k].2:=by
 unfold zAb;rw[show nm (bsV V[k].1)=V[k].1 by simp[nm,bsV],zDA c (show(V[k].1,V[k].2)∈V from List.getElem_mem b)];rfl
theorem vlist_calls {w:World}{vb O bb:Nat}{V:List (Bs×It)}(h:zAt w vb O bb V)(hn:V.length≤1099511627776) :
  Calls prog 165 #[.pointer (some ⟨vb,0,none⟩)] w (VListed w V):=by
 have HK:=zh (vkeys_calls w O);have HS:=zh (vsorted_calls h.map hn);have c0:w.cell? ⟨vb,0,none⟩=some (.map (some O)):=zAB h.cells rfl;have H:=zh h;clear h
 go_enter func165,ntmps165
 go_wp2_with fail;refine HK.o.mono ?_;rintro e w' ⟨rfl,rfl⟩;go_wp2_with fail;refine HS.o.mono ?_;rintro e w2 ⟨nv,rfl,A,R,q⟩;have z:OwnR w2 9 1 nv V.length ((V.map (·.1)).map encStr):=by
  have:=A;unfold OwnN at this;rw[List.length_map]at this;exact this
 obtain⟨np,nc,rfl⟩:=OwnR.shape z;have HN:=zh z;have HB:=zh q;have B:=zh q;have K:=zh (H.o.keep fun k N=>q.block k (H.o.lt N));clear A q R z;obtain⟨i4,S,I,J,L⟩:=info_parts (show(prog.info? 231).map (fun i=>(i.zero,i.size,i.bytes))=some (some (.agg #[.string ⟨#[]⟩,.int .i64 0,.int .i64 0,.int .i64 0,.int .i64 0]),5,48) by kernel_rfl);go_wp2_with fail
 go_loopw [5,17] (fun v i wr=>∃k:Nat,k≤V.length∧i=.int .i64 k∧HoldR w2 wr v V k) (fun _ i _=>V.length-(intOf i).toNat)
 case atStart=>exact⟨0,by omega,rfl,⟨OwnR.nil _ _ _,Below.refl _ _,fun j G=>by cases G⟩⟩
 case round =>
  obtain⟨k,N,rfl,M⟩:=hrel;obtain⟨f,Y⟩:∃f,f=wr:=⟨_,rfl⟩;subst Y;obtain⟨ps,cs,rfl⟩:=OwnR.shape M.1;have n:=zh M;have t:=zh (K.o.keep fun k N=>M.2.1.block k (K.o.lt N));have c1:f.cell? ⟨vb,0,none⟩=some (.map (some O)):=zAB t.o.cells rfl;clear M
  by_cases p:k<V.length
  ·have A:=HN.o.keep (w':=f) fun y Z=>n.o.2.1.block y (OwnR.lt HN.o Z);obtain⟨g,rfl⟩:∃g,np=some ⟨g,0,none⟩:=by
    rcases A.2 with⟨-,h0⟩|⟨g,aa,cur,e,-⟩
    ·omega
    ·cases e;exact⟨g,rfl⟩
   have c2:f.cell? ⟨g,k,none⟩=some (.string (bsV V[k].1)):=by
    have:=A.cells (g:=g) rfl k (.string (bsV V[k].1)) (by simp[p,encStr,bsV]);rwa[add_zero]at this
   have U:=zD5 t.o (bsV V[k].1) (by obtain⟨es,-,-,-,X⟩:=H.o.map;have T:(V[k].1).length≤maxLen:=X _ (List.getElem_mem p);exact T);rw[its_at H.o.map.srt p]at U;clear A;have C:=zh (n.o.1.keep (w':=f.alloc (.cells #[.string (bsV V[k].1),.int .i64 V[k].2.a,.int .i64 V[k].2.b,.int .i64 V[k].2.c,.int .i64 V[k].2.d] 231)) fun y Z=>(zAC f _).block y (OwnR.lt n.o.1 Z));have D:=zh (holdsLit f #[.string (bsV V[k].1),.int .i64 V[k].2.a,.int .i64 V[k].2.b,.int .i64 V[k].2.c,.int .i64 V[k].2.d] _ 5 1 1 rfl rfl 231 (0,0));go_wp2_with (at_builtin;refine zAc _ rfl (.tmp 21) (.tmp 30) 226 rfl 231 i4 (.agg #[.string ⟨#[]⟩,.int .i64 0,.int .i64 0,.int .i64 0,.int .i64 0]) 5 48 underlying226 S I J L rfl (by decide) (.slice ps k cs) k _ rfl C.o (.slice (some ⟨f.heap.size,0,none⟩) 1 1) 1 _ rfl D.o (fun u hu=>by simp at hu;rcases hu with rfl|rfl|rfl|rfl|rfl<;>rfl) (by unfold maxLen;omega) (by omega) ?_;intro v4 w4 s m r;go_loud (have P:=zh (hold_push p n.o s m r);clear s m r C D))
   go_roundw
   case rel=>exact⟨k+1,by omega,by go_num,P.o⟩
   case measure=>simp[intOf];omega
  ·obtain rfl:k=V.length:=by omega
   go_wp2_with fail;have k1:f.cell? ⟨vb,1,none⟩=some (.pointer (some ⟨bb,0,none⟩)):=zAB t.o.cells rfl;have k2:f.cell? ⟨vb,2,none⟩=some (.int .i64 1):=zAB t.o.cells rfl;have Q:=zh (fun(W:World) (h:Below f.heap.size f W)=>zD9 (w:=W) (bb:=bb) ((h.block bb (t.o.lt (.inr (.inr rfl)))).trans t.o.book));have Hg:=zh (fun(W1 W2:World) (h:VGo f vb bb W1) (q:Below W1.heap.size W1 W2)=>VGo.go t.o.cells h q);have h0:=zW (VGo f vb bb f) (⟨k1,k2,Below.refl _ _⟩)
   go_region_held3 (fun w'=>w'.cell? ⟨vb,1,none⟩=some (.pointer (some ⟨bb,0,none⟩))∧w'.cell? ⟨vb,2,none⟩=some (.int .i64 1)∧Below f.heap.size f w') (first|exact E|exact Hg.o _ _ h0.o ⟨rfl,rfl,rfl,Nat.le_refl _,fun _ _=>rfl⟩) (first|(go_at_call 202;refine(Q.o _ (VGo.bel (vb:=vb) (bb:=bb) (by assumption))).mono ?_;rintro e w5 ⟨rfl,q⟩;have E:=Hg.o _ _ (by assumption) q))
   have F:=zh (VGo.bel (w:=f) (vb:=vb) (bb:=bb) (by assumption));go_wp2_with fail
   go_ret3
   exact⟨_,rfl,n.o.1.keep fun j G=>F.o.block j (OwnR.lt n.o.1 G),(B.o.trans (n.o.2.1.mono B.o.size)).trans (F.o.mono (B.o.trans (n.o.2.1.mono B.o.size)).size),fun j G=>Nat.le_trans B.o.size (n.o.2.2 j G)⟩
def OpM.v (o:OpM):Value:=.agg #[.int .i64 o.kind,.int .i64 o.client,.int .i64 o.seq,.string o.atK,.string o.atW,.string o.toK,.string o.toW,.int .i64 o.item,.int .i64 o.count,.int .i64 o.price,.bool o.buy,.int .i64 o.id]
def OpM.o (o:OpM)(t:TypeId):Obj:=.cells #[.int .i64 o.kind,.int .i64 o.client,.int .i64 o.seq,.string o.atK,.string o.atW,.string o.toK,.string o.toW,.int .i64 o.item,.int .i64 o.count,.int .i64 o.price,.bool o.buy,.int .i64 o.id] t (0,0)
def zCo (a:ByteArray):Prop:=a.size≤maxLen
def OpM.wf (o:OpM):Prop:=(zCs o.kind∧zCs o.client∧zCs o.seq)∧(zCo o.atK∧zCo o.atW∧zCo o.toK∧zCo o.toW)∧zCs o.item∧zCs o.count∧zCs o.price∧zCs o.id
def OpM.rst (o:OpM):OpM:={o with kind:=0,client:=0,seq:=0,atK:=s0,atW:=s0}
def OpM.same (x y:OpM):Bool:=decide (x.kind=y.kind∧x.client=y.client∧x.seq=y.seq∧x.atK=y.atK∧x.atW=y.atW∧x.toK=y.toK∧x.toW=y.toW∧x.item=y.item∧x.count=y.count∧x.price=y.price∧x.buy=y.buy∧x.id=y.id)
def OpM.lits (o:OpM):List Lit:=[.int .i64 o.kind,.int .i64 o.client,.int .i64 o.seq,.string o.atK.data.toList,.string o.atW.data.toList,.string o.toK.data.toList,.string o.toW.data.toList,.int .i64 o.item,.int .i64 o.count,.int .i64 o.price,.bool o.buy,.int .i64 o.id]
theorem op_lits (o:OpM)(h:o.wf):∀m,(∃n,m=n+2)→prog.keyLits (m+1) 160 [.int .i64 o.kind,.int .i64 o.client,.int .i64 o.seq,.string o.atK,.string o.atW,.string o.toK,.string o.toW,.int .i64 o.item,.int .i64 o.count,.int .i64 o.price,.bool o.buy,.int .i64 o.id]=some o.lits:=by
 have a:prog.cellsOf 160=12:=by kernel_rfl
 have d:prog.cellsOf 23=2:=by kernel_rfl
 have b:prog.cellsOf 3=1:=by kernel_rfl
 have c:prog.cellsOf 4=1:=by kernel_rfl
 obtain⟨⟨i,j,k⟩,⟨t,v,y,z⟩,p,q,r,s⟩:=h;unfold zCs at i j k p q r s;rintro m ⟨n,rfl⟩;have f:prog.cellsOf 9=1:=by kernel_rfl
 unfold zCo at t v y z;simp[Program.keyLits,underlying160,underlying23,underlying3,underlying4,underlying9,a,d,b,c,f,i,j,k,p,q,r,s,t,v,y,z,OpM.lits];rw[if_pos (by decide),if_pos (by decide)];rfl
theorem op_eq (w:World)(x y:OpM)(m:x.wf)(o:y.wf):(Op.equalIn 10000 160 x.v y.v).run prog w=.ok (x.same y) w:=by
 have i:prog.cellsOf 160=12:=by kernel_rfl
 have hn:∃n,prog.types.size=n+2:=⟨prog.types.size-2,by kernel_rfl⟩;have f:∀z:OpM,z.v.formed prog 160=true:=fun z=>by simp[OpM.v,Value.formed,underlying160,i]
 obtain⟨r,j,c⟩:=run_equalIn_deep (10000-3) 3 160 (by kernel_rfl) w _ _ x.v y.v _ _ (f x) (f y) (op_lits x m _ hn) (op_lits y o _ hn);have d:(Op.equalIn 10000 160 x.v y.v).run prog w=.ok r w:=j;rw[d]
 congr 1
 rw[Bool.eq_iff_iff,c];have k:∀a b:ByteArray,a.data.toList=b.data.toList↔a=b:=fun a b=>⟨fun h=>by cases a;cases b;simpa using h,fun h=>by rw[h]⟩;simp only[OpM.lits,OpM.same,List.cons.injEq,Lit.int.injEq,Lit.string.injEq,Lit.bool.injEq,true_and,and_true,decide_eq_true_eq,k]
theorem zAO {x y:Bool}(h:x=true↔y=true):Ending.returned (.bool x)=.returned (.bool y):=by rw[Bool.eq_iff_iff.2 h]
theorem zAn (w:World)(a b:Obj):((w.alloc a).alloc b).heap[w.heap.size+1]?=some b:=by
 have:=zAF (w.alloc a) b;simpa using this
theorem zBF (w:World)(a b:ByteArray)(d:zCo a)(f:zCo b) :
  Calls prog 96 #[.agg #[.string a,.string b]] w (RetB (zDs a b) w):=by
 have c:=zh (zAC w (.cells #[.string a,.string b] 23));unfold zCo maxLen at d f
 go_enter func96,ntmps96
 go_wp2_with fail
 all_goals
  go_ret;refine⟨zAO ?_,c.o⟩;unfold zDs;simp;omega
theorem zDx (w:World)(o:OpM) :
  Calls prog 147 #[o.v] w fun e w'=>e=.returned o.rst.v∧Below w.heap.size w w':=by
 have b:o.v=.agg #[.int .i64 o.kind,.int .i64 o.client,.int .i64 o.seq,.string o.atK,.string o.atW,.string o.toK,.string o.toW,.int .i64 o.item,.int .i64 o.count,.int .i64 o.price,.bool o.buy,.int .i64 o.id]:=rfl;rw[b]
 go_enter func147,ntmps147
 go_wp2_with fail;refine bodyPost_ret (results_cell_row rfl _ _ (w.heap.size+1) _ _ (0,0) _ rfl (zAn _ _ _) underlying160 rfl (by kernel_rfl)) rfl ?_;exact⟨rfl,(zAC _ _).trans ((zAC _ _).mono (by simp))⟩
def OpM.cntM (o:OpM):Bool:=o.cnt&&o.rst.same {OpM.zero with item:=o.item,count:=o.count}
def OpM.idM (o:OpM):Bool:=decide (1≤o.id)&&decide (o.id≤1099511627776)&&o.rst.same {OpM.zero with id:=o.id}
def OpM.bareM (o:OpM):Bool:=o.rst.same OpM.zero
theorem zAp:zCs 0:=zBx (by omega)
theorem zAh:zCo s0:=Nat.zero_le _
theorem OpM.wf_rst {o:OpM}(h:o.wf):o.rst.wf:=⟨⟨zAp,zAp,zAp⟩,⟨zAh,zAh,h.2.1.2.2⟩,h.2.2⟩
theorem zAJ (k:Nat)(w:World)(n:Nat):Below k w (w.drewN n):=⟨rfl,rfl,rfl,Nat.le_refl _,fun _ _=>rfl⟩
theorem zEe {w w1:World}{o:OpM}(b:w1.heap[w.heap.size]?=some (.cells #[.int .i64 o.kind,.int .i64 o.client,.int .i64 o.seq,.string o.atK,.string o.atW,.string o.toK,.string o.toW,.int .i64 o.item,.int .i64 o.count,.int .i64 o.price,.bool o.buy,.int .i64 o.id] 160 (0,0)))(c:Below w.heap.size w w1) :
  w1.heap[w.heap.size]?=some (.cells #[.int .i64 o.kind,.int .i64 o.client,.int .i64 o.seq,.string o.atK,.string o.atW,.string o.toK,.string o.toW,.int .i64 o.item,.int .i64 o.count,.int .i64 o.price,.bool o.buy,.int .i64 o.id] 160 (0,0))∧w1.cell? ⟨w.heap.size,0,none⟩=some (.int .i64 o.kind)∧w1.cell? ⟨w.heap.size,1,none⟩=some (.int .i64 o.client)∧w1.cell? ⟨w.heap.size,2,none⟩=some (.int .i64 o.seq)∧w1.cell? ⟨w.heap.size,3,none⟩=some (.string o.atK)∧w1.cell? ⟨w.heap.size,4,none⟩=some (.string o.atW)∧w1.cell? ⟨w.heap.size,5,none⟩=some (.string o.toK)∧w1.cell? ⟨w.heap.size,6,none⟩=some (.string o.toW)∧w1.cell? ⟨w.heap.size,7,none⟩=some (.int .i64 o.item)∧w1.cell? ⟨w.heap.size,8,none⟩=some (.int .i64 o.count)∧w1.cell? ⟨w.heap.size,9,none⟩=some (.int .i64 o.price)∧w1.cell? ⟨w.heap.size,10,none⟩=some (.bool o.buy)∧w1.cell? ⟨w.heap.size,11,none⟩=some (.int .i64 o.id)∧Below w.heap.size w w1 :=
 ⟨b,zAB b rfl,zAB b rfl,zAB b rfl,zAB b rfl,zAB b rfl,zAB b rfl,zAB b rfl,zAB b rfl,zAB b rfl,zAB b rfl,zAB b rfl,zAB b rfl,c⟩
theorem held_below {w w1:World}{o:OpM}(h:w1.heap[w.heap.size]?=some (.cells #[.int .i64 o.kind,.int .i64 o.client,.int .i64 o.seq,.string o.atK,.string o.atW,.string o.toK,.string o.toW,.int .i64 o.item,.int .i64 o.count,.int .i64 o.price,.bool o.buy,.int .i64 o.id] 160 (0,0))∧w1.cell? ⟨w.heap.size,0,none⟩=some (.int .i64 o.kind)∧w1.cell? ⟨w.heap.size,1,none⟩=some (.int .i64 o.client)∧w1.cell? ⟨w.heap.size,2,none⟩=some (.int .i64 o.seq)∧w1.cell? ⟨w.heap.size,3,none⟩=some (.string o.atK)∧w1.cell? ⟨w.heap.size,4,none⟩=some (.string o.atW)∧w1.cell? ⟨w.heap.size,5,none⟩=some (.string o.toK)∧w1.cell? ⟨w.heap.size,6,none⟩=some (.string o.toW)∧w1.cell? ⟨w.heap.size,7,none⟩=some (.int .i64 o.item)∧w1.cell? ⟨w.heap.size,8,none⟩=some (.int .i64 o.count)∧w1.cell? ⟨w.heap.size,9,none⟩=some (.int .i64 o.price)∧w1.cell? ⟨w.heap.size,10,none⟩=some (.bool o.buy)∧w1.cell? ⟨w.heap.size,11,none⟩=some (.int .i64 o.id)∧Below w.heap.size w w1):Below w.heap.size w w1:=h.2.2.2.2.2.2.2.2.2.2.2.2.2
theorem held_go {w w1 b:World}{o:OpM}(h:w1.heap[w.heap.size]?=some (.cells #[.int .i64 o.kind,.int .i64 o.client,.int .i64 o.seq,.string o.atK,.string o.atW,.string o.toK,.string o.toW,.int .i64 o.item,.int .i64 o.count,.int .i64 o.price,.bool o.buy,.int .i64 o.id] 160 (0,0))∧w1.cell? ⟨w.heap.size,0,none⟩=some (.int .i64 o.kind)∧w1.cell? ⟨w.heap.size,1,none⟩=some (.int .i64 o.client)∧w1.cell? ⟨w.heap.size,2,none⟩=some (.int .i64 o.seq)∧w1.cell? ⟨w.heap.size,3,none⟩=some (.string o.atK)∧w1.cell? ⟨w.heap.size,4,none⟩=some (.string o.atW)∧w1.cell? ⟨w.heap.size,5,none⟩=some (.string o.toK)∧w1.cell? ⟨w.heap.size,6,none⟩=some (.string o.toW)∧w1.cell? ⟨w.heap.size,7,none⟩=some (.int .i64 o.item)∧w1.cell? ⟨w.heap.size,8,none⟩=some (.int .i64 o.count)∧w1.cell? ⟨w.heap.size,9,none⟩=some (.int .i64 o.price)∧w1.cell? ⟨w.heap.size,10,none⟩=some (.bool o.buy)∧w1.cell? ⟨w.heap.size,11,none⟩=some (.int .i64 o.id)∧Below w.heap.size w w1)(f:Below w1.heap.size w1 b) :
  b.heap[w.heap.size]?=some (.cells #[.int .i64 o.kind,.int .i64 o.client,.int .i64 o.seq,.string o.atK,.string o.atW,.string o.toK,.string o.toW,.int .i64 o.item,.int .i64 o.count,.int .i64 o.price,.bool o.buy,.int .i64 o.id] 160 (0,0))∧b.cell? ⟨w.heap.size,0,none⟩=some (.int .i64 o.kind)∧b.cell? ⟨w.heap.size,1,none⟩=some (.int .i64 o.client)∧b.cell? ⟨w.heap.size,2,none⟩=some (.int .i64 o.seq)∧b.cell? ⟨w.heap.size,3,none⟩=some (.string o.atK)∧b.cell? ⟨w.heap.size,4,none⟩=some (.string o.atW)∧b.cell? ⟨w.heap.size,5,none⟩=some (.string o.toK)∧b.cell? ⟨w.heap.size,6,none⟩=some (.string o.toW)∧b.cell? ⟨w.heap.size,7,none⟩=some (.int .i64 o.item)∧b.cell? ⟨w.heap.size,8,none⟩=some (.int .i64 o.count)∧b.cell? ⟨w.heap.size,9,none⟩=some (.int .i64 o.price)∧b.cell? ⟨w.heap.size,10,none⟩=some (.bool o.buy)∧b.cell? ⟨w.heap.size,11,none⟩=some (.int .i64 o.id)∧Below w.heap.size w b:=by
 obtain⟨c,-,-,-,-,-,-,-,-,-,-,-,-,d⟩:=h;exact zEe ((f.block _ (zAA c)).trans c) (d.trans (f.mono d.size))
theorem opbare_calls (w:World)(o:OpM)(h:o.wf) :
  Calls prog 95 #[o.v] w (RetB o.bareM w):=by
 have j:=zh (fun W=>op_eq W o.rst OpM.zero (OpM.wf_rst h) ⟨⟨zAp,zAp,zAp⟩,⟨zAh,zAh,zAh,zAh⟩,zAp,zAp,zAp,zAp⟩);have c:=zh (fun W=>zDx W o);have k:o.v=.agg #[.int .i64 o.kind,.int .i64 o.client,.int .i64 o.seq,.string o.atK,.string o.atW,.string o.toK,.string o.toW,.int .i64 o.item,.int .i64 o.count,.int .i64 o.price,.bool o.buy,.int .i64 o.id]:=rfl;have b:=zh (fun W:World=>zAC W (o.o 160));rw[k]at c ⊢
 go_enter func95,ntmps95
 go_wp2_with fail;refine(c.o _).mono ?_;rintro e n ⟨f,d⟩;rw[show o.rst.v=.agg #[.int .i64 0,.int .i64 0,.int .i64 0,.string ⟨#[]⟩,.string ⟨#[]⟩,.string o.toK,.string o.toW,.int .i64 o.item,.int .i64 o.count,.int .i64 o.price,.bool o.buy,.int .i64 o.id]from rfl]at f;subst f;have i:=zh ((b.o w).trans (d.mono (b.o w).size));clear d;have m:∀W:World,(Op.equalIn 10000 160 (.agg #[.int .i64 0,.int .i64 0,.int .i64 0,.string ⟨#[]⟩,.string ⟨#[]⟩,.string o.toK,.string o.toW,.int .i64 o.item,.int .i64 o.count,.int .i64 o.price,.bool o.buy,.int .i64 o.id]) (.agg #[.int .i64 0,.int .i64 0,.int .i64 0,.string ⟨#[]⟩,.string ⟨#[]⟩,.string ⟨#[]⟩,.string ⟨#[]⟩,.int .i64 0,.int .i64 0,.int .i64 0,.bool false,.int .i64 0])).run prog W=.ok o.bareM W:=j.o;go_wp2_with fail;go_ret;exact⟨rfl,i.o⟩
theorem zCU (w:World)(o:OpM)(h:o.wf) :
  Calls prog 91 #[o.v] w (RetB o.cntM w):=by
 have r:=zh (fun W=>op_eq W o.rst {OpM.zero with item:=o.item,count:=o.count} (OpM.wf_rst h) ⟨⟨zAp,zAp,zAp⟩,⟨zAh,zAh,zAh,zAh⟩,h.2.2.1,h.2.2.2.1,zAp,zAp⟩);have n:=zh (fun W=>zDx W o);have s:o.v=.agg #[.int .i64 o.kind,.int .i64 o.client,.int .i64 o.seq,.string o.atK,.string o.atW,.string o.toK,.string o.toW,.int .i64 o.item,.int .i64 o.count,.int .i64 o.price,.bool o.buy,.int .i64 o.id]:=rfl;have q:=zh (fun W:World=>zAC W (o.o 160));rw[s]at n ⊢
 go_enter func91,ntmps91
 go_wp2_with fail;obtain⟨w1,b⟩:∃w1,w1=w.alloc (.cells #[.int .i64 o.kind,.int .i64 o.client,.int .i64 o.seq,.string o.atK,.string o.atW,.string o.toK,.string o.toW,.int .i64 o.item,.int .i64 o.count,.int .i64 o.price,.bool o.buy,.int .i64 o.id] 160 (0,0)):=⟨_,rfl⟩;have k:w1.heap[w.heap.size]?=some (.cells #[.int .i64 o.kind,.int .i64 o.client,.int .i64 o.seq,.string o.atK,.string o.atW,.string o.toK,.string o.toW,.int .i64 o.item,.int .i64 o.count,.int .i64 o.price,.bool o.buy,.int .i64 o.id] 160 (0,0)):=by rw[b];exact zAF _ _
 have m:Below w.heap.size w w1:=b▸q.o w;rw[←b];clear b;obtain⟨B,k1,k2,k3,k4,C,D,E,F,G,y,z,a,j⟩:=zEe k m;have c:=zh (zEe k m);clear k m j;rcases(by omega:(o.item<0)∨(0≤o.item∧4≤o.item)∨(0≤o.item∧o.item<4∧o.count<1)∨(0≤o.item∧o.item<4∧1≤o.count∧1048576<o.count)∨(0≤o.item∧o.item<4∧1≤o.count∧o.count≤1048576))with h1|⟨h1,h2⟩|⟨h1,h2,h3⟩|⟨h1,h2,h3,h4⟩|⟨h1,h2,h3,h4⟩
 ·have i:decide (0≤o.item)=false:=decide_eq_false (by omega)
  go_quiet (fail)
  go_wp2_with fail;go_ret;refine⟨zAO ?_,c.o.2.2.2.2.2.2.2.2.2.2.2.2.2.trans (zAJ _ _ _)⟩;unfold OpM.cntM OpM.cnt;simp;omega
 ·have i:decide (o.item<4)=false:=decide_eq_false (by omega)
  go_quiet (fail)
  go_wp2_with fail;go_ret;refine⟨zAO ?_,c.o.2.2.2.2.2.2.2.2.2.2.2.2.2.trans (zAJ _ _ _)⟩;unfold OpM.cntM OpM.cnt;simp;omega
 ·have i:decide (1≤o.count)=false:=decide_eq_false (by omega)
  go_quiet (fail)
  go_wp2_with fail;go_ret;refine⟨zAO ?_,c.o.2.2.2.2.2.2.2.2.2.2.2.2.2.trans (zAJ _ _ _)⟩;unfold OpM.cntM OpM.cnt;simp;omega
 ·have i:decide (o.count≤1048576)=false:=decide_eq_false (by omega)
  go_quiet (fail)
  go_wp2_with fail;go_ret;refine⟨zAO ?_,c.o.2.2.2.2.2.2.2.2.2.2.2.2.2.trans (zAJ _ _ _)⟩;unfold OpM.cntM OpM.cnt;simp;omega
 ·have A:∀W:World,(Op.equalIn 10000 160 (.agg #[.int .i64 0,.int .i64 0,.int .i64 0,.string ⟨#[]⟩,.string ⟨#[]⟩,.string o.toK,.string o.toW,.int .i64 o.item,.int .i64 o.count,.int .i64 o.price,.bool o.buy,.int .i64 o.id]) (.agg #[.int .i64 0,.int .i64 0,.int .i64 0,.string ⟨#[]⟩,.string ⟨#[]⟩,.string ⟨#[]⟩,.string ⟨#[]⟩,.int .i64 o.item,.int .i64 o.count,.int .i64 0,.bool false,.int .i64 0])).run prog W=.ok (o.rst.same {OpM.zero with item:=o.item,count:=o.count}) W:=r.o
  go_region_held3 (fun w'=>w'.heap[w.heap.size]?=some (.cells #[.int .i64 o.kind,.int .i64 o.client,.int .i64 o.seq,.string o.atK,.string o.atW,.string o.toK,.string o.toW,.int .i64 o.item,.int .i64 o.count,.int .i64 o.price,.bool o.buy,.int .i64 o.id] 160 (0,0))∧w'.cell? ⟨w.heap.size,0,none⟩=some (.int .i64 o.kind)∧w'.cell? ⟨w.heap.size,1,none⟩=some (.int .i64 o.client)∧w'.cell? ⟨w.heap.size,2,none⟩=some (.int .i64 o.seq)∧w'.cell? ⟨w.heap.size,3,none⟩=some (.string o.atK)∧w'.cell? ⟨w.heap.size,4,none⟩=some (.string o.atW)∧w'.cell? ⟨w.heap.size,5,none⟩=some (.string o.toK)∧w'.cell? ⟨w.heap.size,6,none⟩=some (.string o.toW)∧w'.cell? ⟨w.heap.size,7,none⟩=some (.int .i64 o.item)∧w'.cell? ⟨w.heap.size,8,none⟩=some (.int .i64 o.count)∧w'.cell? ⟨w.heap.size,9,none⟩=some (.int .i64 o.price)∧w'.cell? ⟨w.heap.size,10,none⟩=some (.bool o.buy)∧w'.cell? ⟨w.heap.size,11,none⟩=some (.int .i64 o.id)∧Below w.heap.size w w') (first|exact d|exact held_go c.o ⟨rfl,rfl,rfl,Nat.le_refl _,fun _ _=>rfl⟩) (first|(go_at_call 147;refine(n.o _).mono ?_;rintro e H ⟨p,t⟩;rw[show o.rst.v=.agg #[.int .i64 0,.int .i64 0,.int .i64 0,.string ⟨#[]⟩,.string ⟨#[]⟩,.string o.toK,.string o.toW,.int .i64 o.item,.int .i64 o.count,.int .i64 o.price,.bool o.buy,.int .i64 o.id]from rfl]at p;subst p;have d:=held_go (w:=w) (o:=o) (by assumption) t))
  have f:=zh (held_below (w:=w) (o:=o) (by assumption));go_wp2_with fail;go_ret;refine⟨zAO ?_,f.o⟩;unfold OpM.cntM OpM.cnt;simp;omega
theorem opcancels_calls (w:World)(o:OpM)(h:o.wf) :
  Calls prog 94 #[o.v] w (RetB o.idM w):=by
 have q:=zh (fun W=>op_eq W o.rst {OpM.zero with id:=o.id} (OpM.wf_rst h) ⟨⟨zAp,zAp,zAp⟩,⟨zAh,zAh,zAh,zAh⟩,zAp,zAp,zAp,h.2.2.2.2.2⟩);have m:=zh (fun W=>zDx W o);have r:o.v=.agg #[.int .i64 o.kind,.int .i64 o.client,.int .i64 o.seq,.string o.atK,.string o.atW,.string o.toK,.string o.toW,.int .i64 o.item,.int .i64 o.count,.int .i64 o.price,.bool o.buy,.int .i64 o.id]:=rfl;have p:=zh (fun W:World=>zAC W (o.o 160));rw[r]at m ⊢
 go_enter func94,ntmps94
 go_wp2_with fail;obtain⟨w1,b⟩:∃w1,w1=w.alloc (.cells #[.int .i64 o.kind,.int .i64 o.client,.int .i64 o.seq,.string o.atK,.string o.atW,.string o.toK,.string o.toW,.int .i64 o.item,.int .i64 o.count,.int .i64 o.price,.bool o.buy,.int .i64 o.id] 160 (0,0)):=⟨_,rfl⟩;have j:w1.heap[w.heap.size]?=some (.cells #[.int .i64 o.kind,.int .i64 o.client,.int .i64 o.seq,.string o.atK,.string o.atW,.string o.toK,.string o.toW,.int .i64 o.item,.int .i64 o.count,.int .i64 o.price,.bool o.buy,.int .i64 o.id] 160 (0,0)):=by rw[b];exact zAF _ _
 have k:Below w.heap.size w w1:=b▸p.o w;rw[←b];clear b;obtain⟨B,k1,k2,k3,k4,C,D,E,F,G,y,z,a,i⟩:=zEe j k;have d:=zh (zEe j k);clear j k i;rcases(by omega:(o.id<1)∨(1≤o.id∧1099511627776<o.id)∨(1≤o.id∧o.id≤1099511627776))with h1|⟨h1,h2⟩|⟨h1,h2⟩
 ·have t:decide (1≤o.id)=false:=decide_eq_false (by omega)
  go_quiet (fail)
  go_wp2_with fail;go_ret;refine⟨zAO ?_,d.o.2.2.2.2.2.2.2.2.2.2.2.2.2.trans (zAJ _ _ _)⟩;unfold OpM.idM;simp;omega
 ·have t:decide (o.id≤1099511627776)=false:=decide_eq_false (by omega)
  go_quiet (fail)
  go_wp2_with fail;go_ret;refine⟨zAO ?_,d.o.2.2.2.2.2.2.2.2.2.2.2.2.2.trans (zAJ _ _ _)⟩;unfold OpM.idM;simp;omega
 ·have A:∀W:World,(Op.equalIn 10000 160 (.agg #[.int .i64 0,.int .i64 0,.int .i64 0,.string ⟨#[]⟩,.string ⟨#[]⟩,.string o.toK,.string o.toW,.int .i64 o.item,.int .i64 o.count,.int .i64 o.price,.bool o.buy,.int .i64 o.id]) (.agg #[.int .i64 0,.int .i64 0,.int .i64 0,.string ⟨#[]⟩,.string ⟨#[]⟩,.string ⟨#[]⟩,.string ⟨#[]⟩,.int .i64 0,.int .i64 0,.int .i64 0,.bool false,.int .i64 o.id])).run prog W=.ok (o.rst.same {OpM.zero with id:=o.id}) W:=q.o
  go_region_held3 (fun w'=>w'.heap[w.heap.size]?=some (.cells #[.int .i64 o.kind,.int .i64 o.client,.int .i64 o.seq,.string o.atK,.string o.atW,.string o.toK,.string o.toW,.int .i64 o.item,.int .i64 o.count,.int .i64 o.price,.bool o.buy,.int .i64 o.id] 160 (0,0))∧w'.cell? ⟨w.heap.size,0,none⟩=some (.int .i64 o.kind)∧w'.cell? ⟨w.heap.size,1,none⟩=some (.int .i64 o.client)∧w'.cell? ⟨w.heap.size,2,none⟩=some (.int .i64 o.seq)∧w'.cell? ⟨w.heap.size,3,none⟩=some (.string o.atK)∧w'.cell? ⟨w.heap.size,4,none⟩=some (.string o.atW)∧w'.cell? ⟨w.heap.size,5,none⟩=some (.string o.toK)∧w'.cell? ⟨w.heap.size,6,none⟩=some (.string o.toW)∧w'.cell? ⟨w.heap.size,7,none⟩=some (.int .i64 o.item)∧w'.cell? ⟨w.heap.size,8,none⟩=some (.int .i64 o.count)∧w'.cell? ⟨w.heap.size,9,none⟩=some (.int .i64 o.price)∧w'.cell? ⟨w.heap.size,10,none⟩=some (.bool o.buy)∧w'.cell? ⟨w.heap.size,11,none⟩=some (.int .i64 o.id)∧Below w.heap.size w w') (first|exact c|exact held_go d.o ⟨rfl,rfl,rfl,Nat.le_refl _,fun _ _=>rfl⟩) (first|(go_at_call 147;refine(m.o _).mono ?_;rintro e H ⟨n,s⟩;rw[show o.rst.v=.agg #[.int .i64 0,.int .i64 0,.int .i64 0,.string ⟨#[]⟩,.string ⟨#[]⟩,.string o.toK,.string o.toW,.int .i64 o.item,.int .i64 o.count,.int .i64 o.price,.bool o.buy,.int .i64 o.id]from rfl]at n;subst n;have c:=held_go (w:=w) (o:=o) (by assumption) s))
  have f:=zh (held_below (w:=w) (o:=o) (by assumption));go_wp2_with fail;go_ret;refine⟨zAO ?_,f.o⟩;unfold OpM.idM;simp;omega
def OpM.noT (o:OpM):OpM:={o with toK:=s0,toW:=s0}
def OpM.noP (o:OpM):OpM:={o with price:=0,buy:=false}
theorem OpM.wf_noT {o:OpM}(h:o.wf):o.noT.wf:=⟨h.1,⟨h.2.1.1,h.2.1.2.1,zAh,zAh⟩,h.2.2⟩
theorem OpM.wf_noP {o:OpM}(h:o.wf):o.noP.wf:=⟨h.1,h.2.1,h.2.2.1,h.2.2.2.1,zAp,h.2.2.2.2.2⟩
def OpM.sendM (o:OpM):Bool:=zDs o.toK o.toW&&o.noT.cntM
def OpM.ordM (o:OpM):Bool:=decide (1≤o.item)&&decide (1≤o.price)&&decide (o.price≤1024)&&o.noP.cntM
theorem zCH {w:World}{g:Nat}{a b c d e f n h i j k l:Value}{t:TypeId}{fr:Nat×Nat}(m:w.heap[g]?=some (.cells #[a,b,c,d,e,f,n,h,i,j,k,l] t fr)) :
  w.cell? ⟨g,0,none⟩=some a∧w.cell? ⟨g,1,none⟩=some b∧w.cell? ⟨g,2,none⟩=some c∧w.cell? ⟨g,3,none⟩=some d∧w.cell? ⟨g,4,none⟩=some e∧w.cell? ⟨g,5,none⟩=some f∧w.cell? ⟨g,6,none⟩=some n∧w.cell? ⟨g,7,none⟩=some h∧w.cell? ⟨g,8,none⟩=some i∧w.cell? ⟨g,9,none⟩=some j∧w.cell? ⟨g,10,none⟩=some k∧w.cell? ⟨g,11,none⟩=some l :=
 ⟨zAB m rfl,zAB m rfl,zAB m rfl,zAB m rfl,zAB m rfl,zAB m rfl,zAB m rfl,zAB m rfl,zAB m rfl,zAB m rfl,zAB m rfl,zAB m rfl⟩
theorem oporders_calls (w:World)(o:OpM)(h:o.wf) :
  Calls prog 93 #[o.v] w (RetB o.ordM w):=by
 have f:=zh (fun W=>zCU W o.noP (OpM.wf_noP h));have b:=zh (fun W:World=>fun x:Obj=>zAC W x);have i:o.v=.agg #[.int .i64 o.kind,.int .i64 o.client,.int .i64 o.seq,.string o.atK,.string o.atW,.string o.toK,.string o.toW,.int .i64 o.item,.int .i64 o.count,.int .i64 o.price,.bool o.buy,.int .i64 o.id]:=rfl;rw[i]
 go_enter func93,ntmps93
 go_wp2_with fail
 ·refine(f.o _).mono ?_;rintro e j ⟨rfl,c⟩;have d:=zh ((b.o w _).trans (c.mono (b.o w _).size));clear c;go_wp2_with fail;go_ret;refine⟨zAO ?_,d.o⟩;unfold OpM.ordM;simp;omega
 all_goals
  go_ret;refine⟨zAO ?_,b.o _ _⟩;unfold OpM.ordM;simp;omega
theorem opsends_calls (w:World)(o:OpM)(h:o.wf) :
  Calls prog 92 #[o.v] w (RetB o.sendM w):=by
 have m:=zh (fun W=>zCU W o.noT (OpM.wf_noT h));have n:=zh (fun W=>zBF W o.toK o.toW h.2.1.2.2.1 h.2.1.2.2.2);have i:=zh (fun W:World=>fun x:Obj=>zAC W x);have p:o.v=.agg #[.int .i64 o.kind,.int .i64 o.client,.int .i64 o.seq,.string o.atK,.string o.atW,.string o.toK,.string o.toW,.int .i64 o.item,.int .i64 o.count,.int .i64 o.price,.bool o.buy,.int .i64 o.id]:=rfl;rw[p]
 go_enter func92,ntmps92
 go_wp2_with fail;refine(n.o _).mono ?_;rintro e B ⟨rfl,c⟩;have b:=(i.o w (.cells #[.int .i64 o.kind,.int .i64 o.client,.int .i64 o.seq,.string o.atK,.string o.atW,.string ⟨#[]⟩,.string ⟨#[]⟩,.int .i64 o.item,.int .i64 o.count,.int .i64 o.price,.bool o.buy,.int .i64 o.id] 160 (0,0))).trans ((i.o _ (.cells #[.string o.toK,.string o.toW] 23 (0,0))).mono (i.o w _).size);have k:=(c.block w.heap.size (by simp;omega)).trans (zAW _ (zAF w _));have d:=zh (b.trans (c.mono b.size));clear c b;obtain⟨s,k1,k2,k3,k4,t,y,z,a,A,q,r⟩:=zCH k;clear k;cases j:zDs o.toK o.toW with
 | false =>
  go_wp2_with fail;go_ret;refine⟨zAO ?_,d.o⟩;unfold OpM.sendM;rw[j];simp
 | true =>
  go_wp2_with fail;refine(m.o _).mono ?_;rintro e w3 ⟨rfl,c⟩;have f:=zh (d.o.trans (c.mono d.o.size));clear c;go_wp2_with fail;go_ret;refine⟨zAO ?_,f.o⟩;unfold OpM.sendM;rw[j];simp
theorem wf64_iff {a:Int}:zCs a↔ -9223372036854775808≤a∧a≤9223372036854775807:=by
 refine⟨fun h=>?_,zBx⟩;unfold zCs Lit.wf at h;simp[IntKind.min,IntKind.max,IntKind.signed,IntKind.bits]at h;omega
theorem isnone_calls {w:World}{vb f bb:Nat}{V:List (Bs×It)}(h:zAt w vb f bb V)(hn:V.length≤1099511627776) :
  Calls prog 127 #[.pointer (some ⟨vb,0,none⟩)] w (RetB V.isEmpty w):=by
 have d:=zh (vlist_calls h hn);have Hn:=zh hn;clear h hn
 go_enter func127,ntmps127
 go_wp2_with fail;refine d.o.mono ?_;rintro e n ⟨v,rfl,b⟩;obtain⟨m,i,rfl⟩:=OwnR.shape b.1;have c:=zh b.2.1;clear b;cases V with
 | nil =>
  go_wp2_with fail;go_ret;exact⟨rfl,c.o⟩
 | cons p V =>
  have k:wrap64 ((V.length:Int)+1)=(V.length:Int)+1:=by have:=Hn.o;simp at this;unfold wrap64;omega
  have j:(((V.length:Int)+1)==0)=false:=by simp;omega
  go_wp2_with fail;go_ret;exact⟨rfl,c.o⟩
theorem zEL (w:World)(o:OpM)(h:o.wf) :
  Calls prog 159 #[o.v] w fun e w'=>e=.returned (It.one o.item o.count).v∧Below w.heap.size w w':=by
 have q:=zh (fun W=>purseone_calls W o.item o.count (wf64_iff.1 h.2.2.1) (wf64_iff.1 h.2.2.2.1));generalize It.one o.item o.count=x at q ⊢;have t:o.v=.agg #[.int .i64 o.kind,.int .i64 o.client,.int .i64 o.seq,.string o.atK,.string o.atW,.string o.toK,.string o.toW,.int .i64 o.item,.int .i64 o.count,.int .i64 o.price,.bool o.buy,.int .i64 o.id]:=rfl;have p:=zh (fun x y:Obj=>(zAC w x).trans ((zAC (w.alloc x) y).mono (zAC w x).size));rw[t]
 go_enter func159,ntmps159
 go_wp2_with fail;refine(q.o _).mono ?_;rintro e m ⟨r,i⟩;have n:=zh ((p.o _ _).trans (i.mono (p.o _ _).size));have j:=(i.block (w.heap.size+1) (by simp)).trans (zAn _ _ _);rw[show x.v=.agg #[.int .i64 x.a,.int .i64 x.b,.int .i64 x.c,.int .i64 x.d]from rfl]at r;subst r;have f:=((zAC m (.cells #[.int .i64 x.a,.int .i64 x.b,.int .i64 x.c,.int .i64 x.d] 46 (0,0))).block (w.heap.size+1) (zAA j)).trans j;have G:=cell0 f;have H:=zCF f;have I:=zCG f;have J:=zCZ f;have B:=zAE f 0;have C:=zAE f 1;have D:=zAE f 2;have E:=zAE f 3;have s:=zh f;clear j f i;go_wp2_with fail;refine bodyPost_ret (results_cell_row rfl _ _ (w.heap.size+1) _ _ (0,0) _ rfl (put4 s.o _ _ _ _) underlying46 rfl (by kernel_rfl)) rfl ?_;refine⟨rfl,?_⟩;have A:=chg4 (m.alloc (.cells #[.int .i64 x.a,.int .i64 x.b,.int .i64 x.c,.int .i64 x.d] 46 (0,0))) (w.heap.size+1) (.int .i64 x.a) (.int .i64 x.b) (.int .i64 x.c) (.int .i64 x.d);have z:=n.o.trans ((zAC m (.cells #[.int .i64 x.a,.int .i64 x.b,.int .i64 x.c,.int .i64 x.d] 46 (0,0))).mono n.o.size);exact(((Chg.of_below z).mono fun _ _ e=>e.elim:Chg (fun k=>k=w.heap.size+1) w _).trans A fun _ _ e=>e).below (Nat.le_refl _) fun k F e=>by omega
theorem econew_calls (w:World):Calls prog 62 #[] w fun e w'=>e=.returned (.pointer (some ⟨w.heap.size+4,0,none⟩))∧w'=((((w.alloc (.map #[] 0)).alloc (.map #[] 0)).alloc (.map #[] 0)).alloc (.map #[] 0)).alloc (.cells #[.map (some w.heap.size),.map (some (w.heap.size+1)),.map (some (w.heap.size+2)),.map (some (w.heap.size+3))] 157):=by
 have b:=@run_makeMap prog
 go_enter func62,ntmps62
 go_wp2_with fail;go_ret;exact⟨rfl,rfl⟩
structure VRep where
 vb:Nat
 pm:Nat
 bb:Nat
 V:List (Bs×It)
structure Sess where
 seq:Int
 err:Int
 id:Int
 has:It
theorem Sess.ext' {x y:Sess}(b:x.seq=y.seq)(c:x.err=y.err)(d:x.id=y.id)(f:x.has=y.has):x=y:=by
 cases x;cases y
 simp_all
def Sess.v (s:Sess):Value:=.agg #[.int .i64 s.seq,.int .i64 s.err,.int .i64 s.id,.int .i64 s.has.a,.int .i64 s.has.b,.int .i64 s.has.c,.int .i64 s.has.d]
noncomputable def sessE:ElemR Sess:=elemK Sess.v (fun s=>.agg [.lit (.int .i64 s.seq),.lit (.int .i64 s.err),.lit (.int .i64 s.id),.lit (.int .i64 s.has.a),.lit (.int .i64 s.has.b),.lit (.int .i64 s.has.c),.lit (.int .i64 s.has.d)])
 (fun x y h=>by
  unfold Sess.v at h;simp only[Value.agg.injEq,Array.mk.injEq,List.cons.injEq,Value.int.injEq,true_and,and_true]at h;exact Sess.ext' h.1 h.2.1 h.2.2.1 (It.ext' h.2.2.2.1 h.2.2.2.2.1 h.2.2.2.2.2.1 h.2.2.2.2.2.2))
 (fun x y h=>by
  simp only[DataW.agg.injEq,List.cons.injEq,DataW.lit.injEq,Lit.int.injEq,true_and,and_true]at h;exact Sess.ext' h.1 h.2.1 h.2.2.1 (It.ext' h.2.2.2.1 h.2.2.2.2.1 h.2.2.2.2.2.1 h.2.2.2.2.2.2)) ⟨0,0,0,It.zero⟩
structure zDm where
 client:Int
 seq:Int
 atK:ByteArray
 atW:ByteArray
 toK:ByteArray
 toW:ByteArray
 item:Int
 count:Int
def zDm.v (t:zDm):Value:=.agg #[.int .i64 t.client,.int .i64 t.seq,.string t.atK,.string t.atW,.string t.toK,.string t.toW,.int .i64 t.item,.int .i64 t.count]
def strD (s:ByteArray):DataW Nat:=.lit (.string s.data.toList)
theorem strD_inj {a b:ByteArray}(h:a.data.toList=b.data.toList):a=b:=by
 cases a;cases b;simpa using h
noncomputable def transE:ElemR zDm:=elemK zDm.v (fun t=>.agg [.lit (.int .i64 t.client),.lit (.int .i64 t.seq),strD t.atK,strD t.atW,strD t.toK,strD t.toW,.lit (.int .i64 t.item),.lit (.int .i64 t.count)])
 (fun x y h=>by
  unfold zDm.v at h;simp only[Value.agg.injEq,Array.mk.injEq,List.cons.injEq,Value.int.injEq,Value.string.injEq,true_and,and_true]at h;cases x;cases y
  simp_all)
 (fun x y h=>by
  unfold strD at h;simp only[DataW.agg.injEq,List.cons.injEq,DataW.lit.injEq,Lit.int.injEq,Lit.string.injEq,true_and,and_true]at h;cases x;cases y;obtain⟨i,j,b,c,d,f,k,m⟩:=h;have b:=strD_inj b;have c:=strD_inj c;have d:=strD_inj d;have f:=strD_inj f
  simp_all) ⟨0,0,s0,s0,s0,s0,0,0⟩
noncomputable def boolE:ElemR Bool:=elemK (fun b=>.bool b) (fun b=>.lit (.bool b)) (fun x y h=>Value.bool.inj h) (fun x y h=>by injection h with h;injection h) false
structure zBu where
 vs:List (Bs×VRep)
 ss:List (Int×Sess)
 ts:List ((Int×Int)×zDm)
 ar:List ((Int×Int)×Bool)
def zDJ (vm sm tm am:Nat):Obj:=.cells #[.map (some vm),.map (some sm),.map (some tm),.map (some am)] 157 (0,0)
def VsIs (w:World)(vm:Nat)(vs:List (Bs×VRep)):Prop:=zAd w prog 9 (strK underlying9) ptrE vm (kmp (·.vb) vs)
structure zAI (w:World)(eb vm sm tm am:Nat)(E:zBu)(own:Nat→Option (Nat×Bs)):Prop where
 cells:w.heap[eb]?=some (zDJ vm sm tm am)
 vaults:VsIs w vm E.vs
 each:∀p∈E.vs,zAt w p.2.vb p.2.pm p.2.bb p.2.V
 sess:zAd w prog 3 (intK underlying3) sessE sm E.ss
 trans:zAd w prog 164 zBt transE tm E.ts
 arr:zAd w prog 164 zBt boolE am E.ar
 oE:own eb=some (0,[])
 oV:own vm=some (1,[])
 oS:own sm=some (2,[])
 oT:own tm=some (3,[])
 oA:own am=some (4,[])
 oP:∀p∈E.vs,own p.2.vb=some (5,p.1)∧own p.2.pm=some (6,p.1)∧own p.2.bb=some (7,p.1)
 oLt:∀k,own k≠none→k<w.heap.size
section
variable {w w':World} {eb vm sm tm am:Nat} {E:zBu} {own:Nat→Option (Nat×Bs)}
theorem zAI.srt (h:zAI w eb vm sm tm am E own):KSrt E.vs:=by
 have:=h.vaults.srt;unfold KSrt kmp at this;rw[List.pairwise_map]at this;exact this
theorem zAI.keep (h:zAI w eb vm sm tm am E own)(b:∀k,own k≠none→w'.heap[k]?=w.heap[k]?)(f:w.heap.size≤w'.heap.size):zAI w' eb vm sm tm am E own :=
 ⟨(b eb (by rw[h.oE];simp)).trans h.cells,h.vaults.keep (b vm (by rw[h.oV];simp)),
  fun p d=>(h.each p d).keep fun k c=>b k (by rcases c with rfl|rfl|rfl<;>simp[h.oP p d]),
  h.sess.keep (b sm (by rw[h.oS];simp)),h.trans.keep (b tm (by rw[h.oT];simp)),h.arr.keep (b am (by rw[h.oA];simp)),
  h.oE,h.oV,h.oS,h.oT,h.oA,h.oP,fun k c=>Nat.lt_of_lt_of_le (h.oLt k c) f⟩
theorem zAI.vault (h:zAI w eb vm sm tm am E own){n:Bs}{r:VRep}(y:zBS n E.vs=some r){j:List (Bs×It)}(s:VTold w r.vb r.pm r.bb j w') :
  zAI w' eb vm sm tm am {E with vs:=zDv n {r with V:=j} E.vs} own:=by
 have A:=zA0 y;obtain⟨B,z,C⟩:=h.oP _ A;have c:∀k,own k≠none→k≠r.pm→w'.heap[k]?=w.heap[k]?:=fun k c b=>s.2.block k (h.oLt k c) b;have b:∀{k:Nat} {t:Nat} {x:Bs},own k=some (t,x)→t≠6∨x≠n→k≠r.pm:=fun {k t x} e ht e2=>by
  rw[e2,z]at e;cases e;simp at ht
 have f:kmp (fun p=>VRep.vb p) (zDv n {r with V:=j} E.vs)=kmp (fun p=>VRep.vb p) E.vs:=by
  rw[k_mp_put];refine k_srt_ext (zEg (k_mp_srt h.srt)) (k_mp_srt h.srt) fun m=>?_
  by_cases i:m=n
  ·subst i;rw[zEB (k_mp_srt h.srt),k_mp_get,y];rfl
  ·rw[k_get_put_other (k_mp_srt h.srt) _ i]
 refine⟨(c eb (by rw[h.oE];simp) (b h.oE (.inl (by decide)))).trans h.cells,?_,fun p q=>?_,h.sess.keep (c sm (by rw[h.oS];simp) (b h.oS (.inl (by decide)))),h.trans.keep (c tm (by rw[h.oT];simp) (b h.oT (.inl (by decide)))),h.arr.keep (c am (by rw[h.oA];simp) (b h.oA (.inl (by decide)))),h.oE,h.oV,h.oS,h.oT,h.oA,fun p q=>?_,fun k d=>Nat.lt_of_lt_of_le (h.oLt k d) s.2.size⟩
 ·show VsIs w' vm (zDv n {r with V:=j} E.vs)
  unfold VsIs;rw[f];exact h.vaults.keep (c vm (by rw[h.oV];simp) (b h.oV (.inl (by decide))))
 ·rcases zCb.1 q with rfl|⟨o,v⟩
  ·exact s.1
  ·obtain⟨q1,q2,a⟩:=h.oP p o;refine(h.each p o).keep fun k d=>?_;rcases d with rfl|rfl|rfl
   ·exact c _ (by rw[q1];simp) (b q1 (.inl (by decide)))
   ·exact c _ (by rw[q2];simp) (b q2 (.inr v))
   ·exact c _ (by rw[a];simp) (b a (.inl (by decide)))
 ·rcases zCb.1 q with rfl|⟨o,v⟩
  ·exact⟨B,z,C⟩
  ·exact h.oP p o
end
end Go.Proofs.YtmcanphlgkolcaaGreatDoor
namespace Go.Proofs.YtmcanphlgkolcaaGreatDoor
open Go.RowKit Go.Sat Go.Maps Go.Sort Go.Shelf
def NilR (w:World)(e:Ending)(w':World):Prop:=e=.returned (.slice none 0 0)∧Below w.heap.size w w'
theorem zEE {P:Program}{n:Nat}{g:Operand}{F:Array Tmp}{assign body:Code}{Q:Exit→Act→World→Prop}{a:Act}{w:World}{f:Nat}{m:Array Value}
  (L:1≤n) (E:a.eval g=.func (.func f) #[] m) (I:∀args w,(callFunc f args).run P w=.ok (.enter f args) w)
  (p:SeqGives Fence.wide (n-1) P f m encStr (fun G:List (List UInt8)=>G=[]) 0 w)
  (N:∀W,Below w.heap.size w W→W.heap[w.heap.size]?=some (.deferred (some []))→Q .normal {a with defers:=[{target:=.collected w.heap.size,args:=#[] }]++a.defers} W) :
  (Code.rangeFunc g F assign body).wpIn Fence.wide n P Q a w:=by
 refine wpIn_rangeFunc ?_;intro fn _;obtain⟨r,D⟩:∃r:Loop,r={state:=.ready,pending:=none,fn:=fn,tmps:=a.tmps,params:=F,assign:=assign,body:=body,defers:=w.heap.size}:=⟨_,rfl⟩;obtain⟨b,d⟩:∃b,(w.alloc (.deferred (some []))).alloc (.loop r)=b:=⟨_,rfl⟩;have i:Below w.heap.size w b:=by rw[←d];exact((Below.refl _ w).alloc (Nat.le_refl _) _).alloc (by simp) _
 have q:b.heap[w.heap.size]?=some (.deferred (some [])):=by rw[←d];exact zAW _ (zAF w _)
 have y:b.heap[w.heap.size+1]?=some (.loop r):=by rw[←d];exact zAn _ _ _
 refine⟨w.heap.size+1,[{target:=.collected w.heap.size,args:=#[] }],b,{target:=.fn (.func f) m,args:=#[.func (.yield (w.heap.size+1)) #[] #[]] },b,f,#[.func (.yield (w.heap.size+1)) #[] #[]]++m,b,?_,?_,fun _ _=>trivial,?_,fun _=>L,?_⟩
 ·rw[←d,D];exact run_enterLoop_outer _ _ _ _ _
 ·have M:∀ev:Operand→Value,ev g=.func (.func f) #[] m→(∀v,ev (.const v)=v)→(resolve ev (rangeCall g (w.heap.size+1)) 0).run P b=.ok {target:=.fn (.func f) m,args:=#[.func (.yield (w.heap.size+1)) #[] #[]] } b:=fun ev h J=>by simp[resolve,go_sem,h,J]
  exact M _ E fun _=>rfl
 ·simp[invoke,go_sem,I]
 ·refine(p (w.heap.size+1) (fun _ W=>W.heap[w.heap.size]?=some (.deferred (some []))∧W.heap[w.heap.size+1]?=some (.loop r)∧Below w.heap.size w W) b i (fun s A B S j C c=>⟨(grownBy_keeps C (fun r e=>(c r e).2) j.1 rfl).trans j.1,(grownBy_keeps C (fun r e=>(c r e).2) j.2.1 rfl).trans j.2.1,j.2.2.grown C j.2.2.size (fun k e=>Nat.le_trans i.size (c k e).1)⟩) (fun R x W _ O=>absurd O (Nat.not_lt_zero _)) ⟨q,y,i⟩).mono ?_;rintro e H ⟨⟨v,rfl⟩,G,-,t,z,o⟩;refine⟨none,H.putObj (w.heap.size+1) (.loop {r with state:=.exhausted}),?_,?_⟩
  ·refine(run_endLoop (P:=P) z (by rw[D];simp)).trans ?_;rw[D]
  ·exact N _ (o.grown (grownBy_putObj_a _ _ _) o.size (fun k e=>by cases e;omega)) ((World.putObj_heap_other (by omega)).trans t)
def zB7 (g:FuncId)(b:Array Value)(w:World):Prop:=SeqGives Fence.wide 2 prog g b encStr (fun ss:List (List UInt8)=>ss=[]) 0 w
section
variable {w:World} {b:Nat}
theorem iterS_none (W:World)(l d:Nat)(J:List (List UInt8)→World→Prop)(i:AbidesFrom W.heap.size J)(q:W.cell? ⟨d,0,none⟩=some (.map (some b)))(h:zAd W prog 3 (intK underlying3) sessE b ([]:List (Int×Sess)))(f:J [] W) :
  CallsIn Fence.wide 2 prog 168 #[.func (.yield l) #[] #[],.pointer (some ⟨d,0,none⟩)] W fun e W'=>(∃v,e=.returned v)∧∃ss:List (List UInt8),ss=[]∧J ss W':=by
 obtain⟨w1,n,j,k,o⟩:=h.range intKeyed underlying153;have m:∀ty,(Instr.next (.pointer (some ⟨W.heap.size,0,none⟩)) false ty).run prog w1=.ok (.tuple #[.bool false]) w1:=fun ty=>by
  rcases j.next intKeyed ty with⟨-,h⟩|⟨p,_,_,s,c,_⟩
  ·exact h
  ·cases c
 refine callsIn_of_wp func168 rfl trivial ?_ rfl;simp only[ntmps168,List.size_toArray,List.length_cons,List.length_nil,Nat.reduceAdd,Nat.reduceSub,Array.replicate_succ,Array.replicate_zero,List.push_toArray,List.append_toArray,List.nil_append,List.cons_append]
 gi_wp2
 refine wpIn_loop_rounds 1 ?_;rw[roundsIn_succ]
 gi_wp2
 go_end0
 exact⟨⟨_,rfl⟩,[],rfl,i [] W _ none f k (fun r e=>by cases e)⟩
theorem givesS_none {c:Nat}(f:w.cell? ⟨c,0,none⟩=some (.map (some b)))(h:zAd w prog 3 (intK underlying3) sessE b ([]:List (Int×Sess))):zB7 168 #[.pointer (some ⟨c,0,none⟩)] w:=fun l J W d j _ i =>
 iterS_none W l c J j ((d.cell (p:=⟨c,0,none⟩) (World.block_lt_of_cell? w _ f)).trans f) (h.keep (d.block b h.lt)) i
theorem keysS_calls (W:World)(b:Option Nat):Calls prog 113 #[.map b] W fun e w'=>e=.returned (.func (.func 168) #[] #[.pointer (some ⟨W.heap.size,0,none⟩)])∧w'=W.alloc (.cells #[.map b] 153):=by
 go_enter func113,ntmps113
 go_wp2_with fail;go_ret;exact⟨rfl,rfl⟩
end
section
variable {w:World} {b:Nat}
theorem iterT_none (W:World)(l d:Nat)(J:List (List UInt8)→World→Prop)(i:AbidesFrom W.heap.size J)(q:W.cell? ⟨d,0,none⟩=some (.map (some b)))(h:zAd W prog 164 (zBt) transE b ([]:List ((Int×Int)×zDm)))(f:J [] W) :
  CallsIn Fence.wide 2 prog 209 #[.func (.yield l) #[] #[],.pointer (some ⟨d,0,none⟩)] W fun e W'=>(∃v,e=.returned v)∧∃ss:List (List UInt8),ss=[]∧J ss W':=by
 obtain⟨w1,n,j,k,o⟩:=h.range zCO underlying154;have m:∀ty,(Instr.next (.pointer (some ⟨W.heap.size,0,none⟩)) false ty).run prog w1=.ok (.tuple #[.bool false]) w1:=fun ty=>by
  rcases j.next zCO ty with⟨-,h⟩|⟨p,_,_,s,c,_⟩
  ·exact h
  ·cases c
 refine callsIn_of_wp func209 rfl trivial ?_ rfl;simp only[ntmps209,List.size_toArray,List.length_cons,List.length_nil,Nat.reduceAdd,Nat.reduceSub,Array.replicate_succ,Array.replicate_zero,List.push_toArray,List.append_toArray,List.nil_append,List.cons_append]
 gi_wp2
 refine wpIn_loop_rounds 1 ?_;rw[roundsIn_succ]
 gi_wp2
 go_end0
 exact⟨⟨_,rfl⟩,[],rfl,i [] W _ none f k (fun r e=>by cases e)⟩
theorem givesT_none {c:Nat}(f:w.cell? ⟨c,0,none⟩=some (.map (some b)))(h:zAd w prog 164 (zBt) transE b ([]:List ((Int×Int)×zDm))):zB7 209 #[.pointer (some ⟨c,0,none⟩)] w:=fun l J W d j _ i =>
 iterT_none W l c J j ((d.cell (p:=⟨c,0,none⟩) (World.block_lt_of_cell? w _ f)).trans f) (h.keep (d.block b h.lt)) i
theorem keysT_calls (W:World)(b:Option Nat):Calls prog 170 #[.map b] W fun e w'=>e=.returned (.func (.func 209) #[] #[.pointer (some ⟨W.heap.size,0,none⟩)])∧w'=W.alloc (.cells #[.map b] 154):=by
 go_enter func170,ntmps170
 go_wp2_with fail;go_ret;exact⟨rfl,rfl⟩
end
section
variable {w:World} {b:Nat}
theorem iterA_none (W:World)(l d:Nat)(J:List (List UInt8)→World→Prop)(i:AbidesFrom W.heap.size J)(q:W.cell? ⟨d,0,none⟩=some (.map (some b)))(h:zAd W prog 164 (zBt) boolE b ([]:List ((Int×Int)×Bool)))(f:J [] W) :
  CallsIn Fence.wide 2 prog 173 #[.func (.yield l) #[] #[],.pointer (some ⟨d,0,none⟩)] W fun e W'=>(∃v,e=.returned v)∧∃ss:List (List UInt8),ss=[]∧J ss W':=by
 obtain⟨w1,n,j,k,o⟩:=h.range zCO underlying155;have m:∀ty,(Instr.next (.pointer (some ⟨W.heap.size,0,none⟩)) false ty).run prog w1=.ok (.tuple #[.bool false]) w1:=fun ty=>by
  rcases j.next zCO ty with⟨-,h⟩|⟨p,_,_,s,c,_⟩
  ·exact h
  ·cases c
 refine callsIn_of_wp func173 rfl trivial ?_ rfl;simp only[ntmps173,List.size_toArray,List.length_cons,List.length_nil,Nat.reduceAdd,Nat.reduceSub,Array.replicate_succ,Array.replicate_zero,List.push_toArray,List.append_toArray,List.nil_append,List.cons_append]
 gi_wp2
 refine wpIn_loop_rounds 1 ?_;rw[roundsIn_succ]
 gi_wp2
 go_end0
 exact⟨⟨_,rfl⟩,[],rfl,i [] W _ none f k (fun r e=>by cases e)⟩
theorem givesA_none {c:Nat}(f:w.cell? ⟨c,0,none⟩=some (.map (some b)))(h:zAd w prog 164 (zBt) boolE b ([]:List ((Int×Int)×Bool))):zB7 173 #[.pointer (some ⟨c,0,none⟩)] w:=fun l J W d j _ i =>
 iterA_none W l c J j ((d.cell (p:=⟨c,0,none⟩) (World.block_lt_of_cell? w _ f)).trans f) (h.keep (d.block b h.lt)) i
theorem keysA_calls (W:World)(b:Option Nat):Calls prog 117 #[.map b] W fun e w'=>e=.returned (.func (.func 173) #[] #[.pointer (some ⟨W.heap.size,0,none⟩)])∧w'=W.alloc (.cells #[.map b] 155):=by
 go_enter func117,ntmps117
 go_wp2_with fail;go_ret;exact⟨rfl,rfl⟩
end
theorem appendI_none (w:World)(g:Nat)(i:Array Value)(_:Fence.wide.fn g)(j:∀args w,(callFunc g args).run prog w=.ok (.enter g args) w)(f:zB7 g i w) :
  CallsIn Fence.wide 3 prog 206 #[.slice none 0 0,.func (.func g) #[] i] w fun e w'=>e=.returned (.slice none 0 0)∧Below w.heap.size w w':=by
 refine callsIn_of_wp_marks func206 rfl trivial ?_ rfl;simp only[ntmps206,List.size_toArray,List.length_cons,List.length_nil,Nat.reduceAdd,Nat.reduceSub,Array.replicate_succ,Array.replicate_zero,List.push_toArray,List.append_toArray,List.nil_append,List.cons_append]
 gi_wp2
 have b:=zAC w (.cells #[.slice none 0 0] 176);refine zEE (by decide) rfl j (SeqGives.later f b) ?_;intro W c m;have o:W.heap[w.heap.size]?=some (.cells #[.slice none 0 0] 176 (0,0)):=(c.block w.heap.size (by simp)).trans (zAF w _);have p:W.cell? ⟨w.heap.size,0,none⟩=some (.slice none 0 0):=zAB o rfl
 gi_wp2
 refine⟨by simp,.inl ⟨_,_,rfl,run_takeDeferred m,?_⟩⟩;have d:=b.trans (c.mono b.size);exact⟨_,results_tmp rfl _ _ _,rfl,d.grown (grownBy_putObj_a _ _ _) d.size (fun k e=>by cases e;simp)⟩
theorem collectI_none (w:World)(g:Nat)(c:Array Value)(d:∀args w,(callFunc g args).run prog w=.ok (.enter g args) w)(b:zB7 g c w) :
  Calls prog 166 #[.func (.func g) #[] c] w (NilR w):=by
 have i:=zh ((callsIn_wide (n:=3)).1 (appendI_none w g c trivial d b));clear b d
 go_enter func166,ntmps166
 go_wp2_with fail;refine i.o.mono ?_;rintro e w' ⟨rfl,f⟩;have j:=zh f;clear f;go_wp2_with fail;go_ret;exact⟨rfl,j.o⟩
theorem appendW_none (w:World)(g:Nat)(i:Array Value)(_:Fence.wide.fn g)(j:∀args w,(callFunc g args).run prog w=.ok (.enter g args) w)(f:zB7 g i w) :
  CallsIn Fence.wide 3 prog 210 #[.slice none 0 0,.func (.func g) #[] i] w fun e w'=>e=.returned (.slice none 0 0)∧Below w.heap.size w w':=by
 refine callsIn_of_wp_marks func210 rfl trivial ?_ rfl;simp only[ntmps210,List.size_toArray,List.length_cons,List.length_nil,Nat.reduceAdd,Nat.reduceSub,Array.replicate_succ,Array.replicate_zero,List.push_toArray,List.append_toArray,List.nil_append,List.cons_append]
 gi_wp2
 have b:=zAC w (.cells #[.slice none 0 0] 187);refine zEE (by decide) rfl j (SeqGives.later f b) ?_;intro W c m;have o:W.heap[w.heap.size]?=some (.cells #[.slice none 0 0] 187 (0,0)):=(c.block w.heap.size (by simp)).trans (zAF w _);have p:W.cell? ⟨w.heap.size,0,none⟩=some (.slice none 0 0):=zAB o rfl
 gi_wp2
 refine⟨by simp,.inl ⟨_,_,rfl,run_takeDeferred m,?_⟩⟩;have d:=b.trans (c.mono b.size);exact⟨_,results_tmp rfl _ _ _,rfl,d.grown (grownBy_putObj_a _ _ _) d.size (fun k e=>by cases e;simp)⟩
theorem collectW_none (w:World)(g:Nat)(c:Array Value)(d:∀args w,(callFunc g args).run prog w=.ok (.enter g args) w)(b:zB7 g c w) :
  Calls prog 171 #[.func (.func g) #[] c] w (NilR w):=by
 have i:=zh ((callsIn_wide (n:=3)).1 (appendW_none w g c trivial d b));clear b d
 go_enter func171,ntmps171
 go_wp2_with fail;refine i.o.mono ?_;rintro e w' ⟨rfl,f⟩;have j:=zh f;clear f;go_wp2_with fail;go_ret;exact⟨rfl,j.o⟩
theorem sortedI_none (w:World)(g:Nat)(c:Array Value)(d:∀args w,(callFunc g args).run prog w=.ok (.enter g args) w)(b:zB7 g c w) :
  Calls prog 112 #[.func (.func g) #[] c] w (NilR w):=by
 have i:=zh (collectI_none w g c d b);have k:=zh (fun W=>Tryz.slices_Sort_int_none none 0 W);clear b d
 go_enter func112,ntmps112
 go_wp2_with fail;refine i.o.mono ?_;rintro e w' ⟨rfl,f⟩;have j:=zh f;clear f;go_wp2_with fail;refine(k.o _).mono ?_;rintro e w3 ⟨rfl,rfl⟩;go_wp2_with fail;go_ret;exact⟨rfl,j.o⟩
theorem insertW_none (w:World)(b:Value) :
  Calls prog 250 #[.slice none 0 0,.int .i64 0,.int .i64 0,b] w fun e w'=>e=.returned (.tuple #[])∧w'=w:=by
 go_enter func250,ntmps250
 go_wp2_with fail;refine wp_loop_rounds 1 ?_;rw[rounds_succ];go_wp2_with fail
 go_end0
 exact⟨rfl,rfl⟩
theorem pdqW_none (w:World)(b:Value) :
  Calls prog 211 #[.slice none 0 0,.int .i64 0,.int .i64 0,.int .i64 0,b] w fun e w'=>e=.returned (.tuple #[])∧w'=w:=by
 have c:=zh (fun W=>insertW_none W b)
 go_enter func211,ntmps211
 go_wp2_with fail;refine wp_loop_rounds 1 ?_;rw[rounds_succ];go_wp2_with fail;refine(c.o _).mono ?_;rintro e w3 ⟨rfl,rfl⟩;go_wp2_with fail
 (try simp only[Exit.inBlock,Exit.then])
 refine bodyPost_ret (results_none rfl _ _ _) rfl ?_;exact⟨rfl,rfl⟩
theorem sortFW_none (w:World)(b:Value) :
  Calls prog 172 #[.slice none 0 0,b] w fun e w'=>e=.returned (.tuple #[])∧w'=w:=by
 have c:=zh (fun W=>pdqW_none W b);have d:=zh (fun W=>Tryz.bits_Len 0 W (by decide) (by decide))
 go_enter func172,ntmps172
 go_wp2_with fail;refine(d.o _).mono ?_;rintro e w3 ⟨rfl,rfl⟩;rw[show Lib.bitLen (Int.toNat 0)=0 from rfl];go_wp2_with fail;refine(c.o _).mono ?_;rintro e w3 ⟨rfl,rfl⟩;go_wp2_with fail
 go_end0
 exact⟨rfl,rfl⟩
theorem sortedW_none (w:World)(g:Nat)(c:Array Value)(f:Value)(d:∀args w,(callFunc g args).run prog w=.ok (.enter g args) w)(b:zB7 g c w) :
  Calls prog 116 #[.func (.func g) #[] c,f] w (NilR w):=by
 have j:=zh (collectW_none w g c d b);have m:=zh (fun W=>sortFW_none W f);clear b d
 go_enter func116,ntmps116
 go_wp2_with fail;refine j.o.mono ?_;rintro e w' ⟨rfl,i⟩;have k:=zh i;clear i;go_wp2_with fail;refine(m.o _).mono ?_;rintro e w3 ⟨rfl,rfl⟩;go_wp2_with fail;go_ret;exact⟨rfl,k.o⟩
theorem nilR_box {w:World}{o:Obj}{e:Ending}{w':World}(h:NilR (w.alloc o) e w'):NilR w e w':=⟨h.1,(zAC w o).trans (h.2.mono (zAC w o).size)⟩
theorem box_map (w:World)(b:Nat)(t:TypeId):(w.alloc (.cells #[.map (some b)] t)).cell? ⟨w.heap.size,0,none⟩=some (.map (some b)):=zAB (zAF w _) rfl
theorem sortedS_none {w:World}{b:Nat}(h:zAd w prog 3 (intK underlying3) sessE b ([]:List (Int×Sess))) :
  Calls prog 112 #[.func (.func 168) #[] #[.pointer (some ⟨w.heap.size,0,none⟩)]] (w.alloc (.cells #[.map (some b)] 153)) (NilR w) :=
 (sortedI_none _ _ _ (enters_of func168 (by kernel_rfl) rfl) (givesS_none (box_map w b _) (h.keep ((zAC w _).block b h.lt)))).mono fun _ _ h=>nilR_box h
theorem sortedT_none {w:World}{b:Nat}(h:zAd w prog 164 (zBt) transE b ([]:List ((Int×Int)×zDm))) :
  Calls prog 116 #[.func (.func 209) #[] #[.pointer (some ⟨w.heap.size,0,none⟩)],.func (.func 118) #[] #[]] (w.alloc (.cells #[.map (some b)] 154)) (NilR w) :=
 (sortedW_none _ _ _ _ (enters_of func209 (by kernel_rfl) rfl) (givesT_none (box_map w b _) (h.keep ((zAC w _).block b h.lt)))).mono fun _ _ h=>nilR_box h
theorem sortedA_none {w:World}{b:Nat}(h:zAd w prog 164 (zBt) boolE b ([]:List ((Int×Int)×Bool))) :
  Calls prog 116 #[.func (.func 173) #[] #[.pointer (some ⟨w.heap.size,0,none⟩)],.func (.func 118) #[] #[]] (w.alloc (.cells #[.map (some b)] 155)) (NilR w) :=
 (sortedW_none _ _ _ _ (enters_of func173 (by kernel_rfl) rfl) (givesA_none (box_map w b _) (h.keep ((zAC w _).block b h.lt)))).mono fun _ _ h=>nilR_box h
end Go.Proofs.YtmcanphlgkolcaaGreatDoor
namespace Go.Proofs.YtmcanphlgkolcaaGreatDoor
open Go.RowKit Go.Sat Go.Maps
section
variable {w w':World} {eb vm sm tm am:Nat} {E:zBu} {own:Nat→Option (Nat×Bs)}
theorem zAI.fresh (h:zAI w eb vm sm tm am E own){n:Bs}{r:VRep}(m:zAt w' r.vb r.pm r.bb r.V)(C:VsIs w' vm (zDv n r E.vs))
  (z:∀k,k=r.vb∨k=r.pm∨k=r.bb→w.heap.size≤k) (A:Chg (fun k=>k=vm) w w') :
  ∃own',zAI w' eb vm sm tm am {E with vs:=zDv n r E.vs} own'∧∀k,k<w.heap.size→own' k=own k:=by
 have c:∀k,own k≠none→k≠vm→w'.heap[k]?=w.heap[k]?:=fun k c b=>A.block k (h.oLt k c) b;have b:∀{k:Nat} {t:Nat} {x:Bs},own k=some (t,x)→t≠1→k≠vm:=fun {k t x} e ht o=>by
  rw[o,h.oV]at e;cases e;exact ht rfl
 have i:∀k,k<w.heap.size→(if k=r.vb then some (5,n)else if k=r.pm then some (6,n)else if k=r.bb then some (7,n)else own k)=own k:=fun k c=>by
  have v:=z r.vb (.inl rfl);have o:=z r.pm (.inr (.inl rfl));have y:=z r.bb (.inr (.inr rfl));rw[if_neg (by omega),if_neg (by omega),if_neg (by omega)]
 have f:∀{k:Nat} {x:Nat×Bs},own k=some x→(if k=r.vb then some (5,n)else if k=r.pm then some (6,n)else if k=r.bb then some (7,n)else own k)=some x:=fun {k x} e=>(i k (h.oLt k (by rw[e];simp))).trans e;refine⟨fun k=>if k=r.vb then some (5,n)else if k=r.pm then some (6,n)else if k=r.bb then some (7,n)else own k,⟨(c eb (by rw[h.oE];simp) (b h.oE (by decide))).trans h.cells,C,fun p a=>?_,h.sess.keep (c sm (by rw[h.oS];simp) (b h.oS (by decide))),h.trans.keep (c tm (by rw[h.oT];simp) (b h.oT (by decide))),h.arr.keep (c am (by rw[h.oA];simp) (b h.oA (by decide))),f h.oE,f h.oV,f h.oS,f h.oT,f h.oA,fun p a=>?_,fun k j=>?_⟩,i⟩
 ·rcases zCb.1 a with rfl|⟨q,B⟩
  ·exact m
  ·obtain⟨q1,q2,s⟩:=h.oP p q;refine(h.each p q).keep fun k j=>?_;rcases j with rfl|rfl|rfl
   ·exact c _ (by rw[q1];simp) (b q1 (by decide))
   ·exact c _ (by rw[q2];simp) (b q2 (by decide))
   ·exact c _ (by rw[s];simp) (b s (by decide))
 ·rcases zCb.1 a with rfl|⟨q,B⟩
  ·refine⟨if_pos rfl,?_,?_⟩
   ·show(if r.pm=r.vb then _ else _)=_
    rw[if_neg (Ne.symm m.n1),if_pos rfl]
   ·show(if r.bb=r.vb then _ else _)=_
    rw[if_neg (Ne.symm m.n2),if_neg (Ne.symm m.n3),if_pos rfl]
  ·obtain⟨q1,q2,s⟩:=h.oP p q;exact⟨f q1,f q2,f s⟩
 ·have d:(if k=r.vb then some (5,n)else if k=r.pm then some (6,n)else if k=r.bb then some (7,n)else own k)≠none:=j
  by_cases v:k=r.vb
  ·exact m.lt (.inl v)
  by_cases o:k=r.pm
  ·exact m.lt (.inr (.inl o))
  by_cases y:k=r.bb
  ·exact m.lt (.inr (.inr y))
  rw[if_neg v,if_neg o,if_neg y]at d;exact Nat.lt_of_lt_of_le (h.oLt k d) A.size
theorem zAI.less (h:zAI w eb vm sm tm am E own){n:Bs}(o:VsIs w' vm (kdel n E.vs))(j:Chg (fun k=>k=vm) w w'):zAI w' eb vm sm tm am {E with vs:=kdel n E.vs} own:=by
 have c:∀k,own k≠none→k≠vm→w'.heap[k]?=w.heap[k]?:=fun k c b=>j.block k (h.oLt k c) b;have b:∀{k:Nat} {t:Nat} {x:Bs},own k=some (t,x)→t≠1→k≠vm:=fun {k t x} e ht e2=>by
  rw[e2,h.oV]at e;cases e;exact ht rfl
 refine⟨(c eb (by rw[h.oE];simp) (b h.oE (by decide))).trans h.cells,o,fun p f=>?_,h.sess.keep (c sm (by rw[h.oS];simp) (b h.oS (by decide))),h.trans.keep (c tm (by rw[h.oT];simp) (b h.oT (by decide))),h.arr.keep (c am (by rw[h.oA];simp) (b h.oA (by decide))),h.oE,h.oV,h.oS,h.oT,h.oA,fun p f=>h.oP p (zDu.1 f).1,fun k d=>Nat.lt_of_lt_of_le (h.oLt k d) j.size⟩;obtain⟨i,q⟩:=zDu.1 f;obtain⟨q1,q2,m⟩:=h.oP p i;refine(h.each p i).keep fun k d=>?_;rcases d with rfl|rfl|rfl
 ·exact c _ (by rw[q1];simp) (b q1 (by decide))
 ·exact c _ (by rw[q2];simp) (b q2 (by decide))
 ·exact c _ (by rw[m];simp) (b m (by decide))
theorem zAI.said (h:zAI w eb vm sm tm am E own){ss:List (Int×Sess)}(m:zAd w' prog 3 (intK underlying3) sessE sm ss)(f:Chg (fun k=>k=sm) w w'):zAI w' eb vm sm tm am {E with ss:=ss} own:=by
 have c:∀k,own k≠none→k≠sm→w'.heap[k]?=w.heap[k]?:=fun k c b=>f.block k (h.oLt k c) b;have b:∀{k:Nat} {t:Nat} {x:Bs},own k=some (t,x)→t≠2→k≠sm:=fun {k t x} e ht e2=>by
  rw[e2,h.oS]at e;cases e;exact ht rfl
 refine⟨(c eb (by rw[h.oE];simp) (b h.oE (by decide))).trans h.cells,h.vaults.keep (c vm (by rw[h.oV];simp) (b h.oV (by decide))),fun p i=>?_,m,h.trans.keep (c tm (by rw[h.oT];simp) (b h.oT (by decide))),h.arr.keep (c am (by rw[h.oA];simp) (b h.oA (by decide))),h.oE,h.oV,h.oS,h.oT,h.oA,h.oP,fun k d=>Nat.lt_of_lt_of_le (h.oLt k d) f.size⟩;obtain⟨q1,q2,j⟩:=h.oP p i;refine(h.each p i).keep fun k d=>?_;rcases d with rfl|rfl|rfl
 ·exact c _ (by rw[q1];simp) (b q1 (by decide))
 ·exact c _ (by rw[q2];simp) (b q2 (by decide))
 ·exact c _ (by rw[j];simp) (b j (by decide))
end
end Go.Proofs.YtmcanphlgkolcaaGreatDoor
namespace Go.Sat
open Go.RowKit
theorem zAf.at {w:World}{v:Value}{l:Bs}(h:zAf w v l):l=[]∨∃b o c,v=.slice (some ⟨b,o,none⟩) l.length c∧∀i x,l[i]?=some x→w.cell? ⟨b,o+i,none⟩=some (.int .u8 (x.toNat:Int)):=by
 obtain⟨p,c,rfl,j,f⟩:=h.kit;cases p with
 | none=>exact .inl (j rfl)
 | some a =>
  cases l with
  | nil=>exact .inl rfl
  | cons x r =>
   obtain⟨b,o,q⟩:=a;have k:=f _ rfl 0 x (by simp);have d:q=none:=by
    have:=World.cell?_spot k;simpa[Addr.add]using this
   subst d;refine .inr ⟨b,o,c,rfl,fun i y n=>?_⟩;have m:=f _ rfl i y n;have e:(⟨b,o,none⟩:Addr).add i=⟨b,o+i,none⟩:=by unfold Addr.add;split<;>simp_all
   rw[←e];exact m
end Go.Sat
namespace Go.Proofs.YtmcanphlgkolcaaGreatDoor
open Go.RowKit Go.Sat Go.Maps
def sA:ByteArray:=⟨#[97]⟩
def b5:Bs:=[49,50,51,52,53]
def b3:Bs:=[54,55,56]
def b6:Bs:=[49,50,51,52,53,54]
def K0:zAD:=zAD.fresh 100
def K1:zAD:=(K0.append [97] b5).1
def K2:zAD:=(K1.sync [[97]]).1
def K3:zAD:=(K2.append [97] b3).1
theorem k1:(K0.append (nm sA) [b5].flatten)=(K1,0):=by rfl
theorem k2:(K1.sync ([sA].map nm))=(K2,0):=by rfl
theorem k3:(K2.append (nm sA) [b3].flatten)=(K3,0):=by rfl
theorem k4:Sat.get (nm sA) (K3.crash 1).files=some ⟨b6,6⟩:=by rfl
end Go.Proofs.YtmcanphlgkolcaaGreatDoor
namespace Go.Sat
open Go.RowKit
theorem zBH.cut {w:World}{p:Option Addr}{n c:Nat}{xs:List Value}(h:zBH w 1 (.slice p n c) n xs){k:Nat}(q:k≤n)(d:Nat):zBH w 1 (.slice p k d) k (xs.take k):=by
 obtain⟨r,s,f,e,j,o⟩:=h;cases e;refine⟨by rw[List.length_take];omega,p,d,rfl,fun e=>?_,fun a m i u b=>o a m i u ?_⟩
 ·have:=j e;omega
 ·rw[List.getElem?_take]at b
  split at b
  ·exact b
  ·cases b
theorem zAf.cut {w:World}{p:Option Addr}{n c:Nat}{l:Bs}(h:zAf w (.slice p n c) l){k:Nat}(f:k≤l.length)(b:Nat):zAf w (.slice p k b) (l.take k):=by
 obtain⟨j,i,e⟩:=h.slice;cases e;unfold zAf at h ⊢;have d:(l.take k).length=k:=by rw[List.length_take];omega
 rw[d,zEJ];exact zBH.cut h f b
theorem run_upto {P:Program}(w:World){t e:TypeId}{i:TypeInfo}(m:P.underlying t=some (.slice e))(j:P.info? e=some i)(a:Option Addr)(c b k:Nat)(h:k≤b) :
  (Instr.slice t (.slice a c b) none (some (.int .i64 (k:Int))) none).run P w=.ok (.slice a k b) w:=by
 have f:(Instr.sliceBound (.int .i64 (k:Int)) b .sliceAcap).run P w=.ok k w:=by
  rw[run_sliceBound _ _ _ _ _ (by omega) (by omega)];simp
 have d:(if b=0 then a else a.map fun x=>x.add (0*i.size))=a:=by
  split
  ·rfl
  ·cases a<;>simp[Addr.add]
 simp only[Nat.zero_mul]at d;simp[Instr.slice,run_underlying m,Instr.sliceBounds,f,sizeOf,typeInfo,j,Result.andThen,d]
theorem zA4.shape {w:World}{e:TypeId}{v:Value}{l:Bs}(h:zA4 w e v l):v=.slice none 0 0∨∃g c,v=.slice (some ⟨g,0,none⟩) l.length c:=by
 rcases h.2 with⟨rfl,_⟩|⟨g,b,cur,rfl,_⟩
 ·exact .inl rfl
 ·exact .inr ⟨g,b,rfl⟩
end Go.Sat
namespace Go.Proofs.YtmcanphlgkolcaaGreatDoor
open Go.RowKit Go.Sat Go.Maps
theorem zBM.row {w:World}{p:Option Addr}{n c:Nat}{ls:List Bs}(h:zBM w (.slice p n c) ls){k:Nat}(f:k<ls.length) :
  n=ls.length∧∃b o v,p=some ⟨b,o,none⟩∧w.cell? ⟨b,o+k,none⟩=some v∧zAf w v ls[k]:=by
 obtain⟨z,t,e,y,s⟩:=h;cases e;have i:ls≠[]:=fun e=>by rw[e]at f;simp at f
 obtain⟨b,o,vs,rfl,m,q,r⟩:=s i;have d:k<vs.length:=by rw[m];exact f
 have j:(⟨b,o,none⟩:Addr).add k=⟨b,o+k,none⟩:=by unfold Addr.add;split<;>simp_all
 refine⟨rfl,b,o,vs[k],rfl,?_,zAf.of_kit (r k _ _ (List.getElem?_eq_getElem d) (List.getElem?_eq_getElem f))⟩;rw[←j];exact q k _ (List.getElem?_eq_getElem d)
theorem zBM.len {w:World}{p:Option Addr}{n c:Nat}{ls:List Bs}(h:zBM w (.slice p n c) ls):n=ls.length:=by
 obtain⟨d,b,e,_⟩:=h;cases e;rfl
/-! ### The disk behind k rounds -/
theorem flat_take {ls:List Bs}{k:Nat}(b:k<ls.length):(ls.take (k+1)).flatten=(ls.take k).flatten++ls[k]:=by
 rw[List.take_succ_eq_append_getElem b,List.flatten_append];simp
theorem flat_take_le (ls:List Bs)(k:Nat):(ls.take k).flatten.length≤ls.flatten.length:=by
 conv=>rhs;rw[←List.take_append_drop k ls,List.flatten_append,List.length_append]
 omega
def bitF (z:Int):Int:=bits .xor .u32 (z/2) (bits .and .u32 3988292384 (-bits .and .u32 z 1%4294967296))
def iterF:Nat→Int→Int
 | 0,z=>z
 | k+1,z=>bitF (iterF k z)
def byteF (v:Int)(c:UInt8):Int:=iterF 8 (bits .xor .u32 v (c.toNat:Int))
def rowF (v:Int)(l:Bs):Int:=l.foldl byteF v
def rowsF (ls:List Bs):Int:=ls.foldl rowF 4294967295
theorem rowF_take (v:Int)(l:Bs){j:Nat}(b:j<l.length):rowF v (l.take (j+1))=byteF (rowF v (l.take j)) l[j]:=by
 rw[List.take_succ_eq_append_getElem b];simp only[rowF,List.foldl_append,List.foldl_cons,List.foldl_nil]
theorem rowsF_take (ls:List Bs){k:Nat}(b:k<ls.length):rowsF (ls.take (k+1))=rowF (rowsF (ls.take k)) ls[k]:=by
 rw[List.take_succ_eq_append_getElem b];simp only[rowsF,List.foldl_append,List.foldl_cons,List.foldl_nil]
theorem rowsF_flat (ls:List Bs):rowsF ls=rowF 4294967295 ls.flatten:=by
 unfold rowsF rowF;rw[List.foldl_flatten]
def sumF (l:Bs):Int:=bits .xor .u32 IntKind.u32.max (rowF 4294967295 l)
theorem sum_calls {w:World}{p:Option Addr}{n c:Nat}{ls:List Bs}(O:zBM w (.slice p n c) ls)(hn:n≤140737488355328)(s:∀l∈ls,l.length≤140737488355328) :
  Calls prog 151 #[.slice p n c] w (fun e w'=>e=.returned (.int .u32 (sumF ls.flatten))∧w'=w):=by
 have C:=zBM.len O;have T:=zh O;have a:=zh s;have t:=zh C;clear O s C
 go_enter func151,ntmps151
 go_wp2_with fail
 go_loop [3,10] (fun v i=>∃k:Nat,k≤n∧i=.int .i64 k∧v=.int .u32 (rowsF (ls.take k))) (fun _ i=>n-(intOf i).toNat)
 case atStart=>exact⟨0,Nat.zero_le _,rfl,rfl⟩
 case round =>
  obtain⟨k,hk,rfl,rfl⟩:=hrel
  by_cases L:k<n
  ·have r:k<ls.length:=by rw[←t.o];exact L
   have H:=zh (rowsF_take ls r);obtain⟨-,b,o,v,rfl,I,N⟩:=zBM.row T.o r;have K:=a.o _ (List.getElem_mem r);generalize Y:ls[k]=l at *;have E:=zh N.at
   obtain⟨pv,cv,rfl⟩:=N.slice;generalize Q:l.length=m at *;generalize rowsF (ls.take k)=x at *;have P:=zh Q;clear N Q Y;go_wp2_with fail
   go_loop [3,16] (fun v i=>∃j:Nat,j≤m∧i=.int .i64 j∧v=.int .u32 (rowF x (l.take j))) (fun _ i=>m-(intOf i).toNat)
   case atStart=>exact⟨0,Nat.zero_le _,rfl,rfl⟩
   case round =>
    obtain⟨j,hj,rfl,rfl⟩:=hrel
    by_cases J:j<m
    ·have d:j<l.length:=by rw[P.o];exact J
     have F:=zh (rowF_take x l d);rcases E.o with h|⟨b2,o2,c2,U,B⟩
     ·rw[h]at d;simp at d
     cases U;have V:=B j _ (List.getElem?_eq_getElem d);generalize l[j]=A at *;generalize rowF x (l.take j)=y at *;have W:A.toNat<256:=A.toNat_lt;clear B;go_wp2_with fail;have R:=zW (byteF y A=iterF 8 (bits .xor .u32 y (A.toNat:Int))) rfl;generalize bits .xor .u32 y (A.toNat:Int)=D at *
     go_loop [3,24] (fun v i=>∃q:Nat,q≤8∧i=.int .i64 q∧v=.int .u32 (iterF q D)) (fun _ i=>8-(intOf i).toNat)
     case atStart=>exact⟨0,Nat.zero_le _,rfl,rfl⟩
     case round =>
      obtain⟨q,hq,rfl,rfl⟩:=hrel
      by_cases Z:q<8
      ·have G:=zW (iterF (q+1) D=bitF (iterF q D)) rfl;generalize iterF q D=z at *;go_wp2_with fail
       go_round
       case rel=>exact⟨q+1,by omega,by go_num,by rw[G.o];rfl⟩
       case measure=>simp[intOf];omega
      ·have M:q=8:=by omega
       subst M;go_wp2_with fail
       go_round
       case rel=>exact⟨j+1,by omega,by go_num,by rw[F.o,R.o]⟩
       case measure=>simp[intOf];omega
    ·have X:j=m:=by omega
     have f:l.take j=l:=List.take_of_length_le (by rw[P.o];omega);rw[f];clear f;go_wp2_with fail
     go_round
     case rel=>exact⟨k+1,by omega,by go_num,by rw[H.o]⟩
     case measure=>simp[intOf];omega
  ·have f:ls.take k=ls:=List.take_of_length_le (by have:=t.o;omega);rw[f];clear f;have S:=zh (show sumF ls.flatten=bits .xor .u32 IntKind.u32.max (rowsF ls) by rw[rowsF_flat];rfl);generalize rowsF ls=x at *;go_wp2_with fail;go_ret;exact⟨by rw[S.o];rfl,rfl⟩
end Go.Proofs.YtmcanphlgkolcaaGreatDoor
