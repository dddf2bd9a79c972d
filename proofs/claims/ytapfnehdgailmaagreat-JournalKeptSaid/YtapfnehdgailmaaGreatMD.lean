/- What the program's functions and the document's do, and plain laws, for PJournalKept. -/
import Derived.Test.YtapfnehdgailmaaGreatMIter
import Derived.Test.YtapfnehdgailmaaGreatMA
import Derived.Test.YtapfnehdgailmaaGreatMC
import Derived.Test.YtapfnehdgailmaaGreatMShelf
open Go.Proofs.Tryz
set_option maxRecDepth 100000
set_option maxHeartbeats 64000000
namespace Go.Proofs.YtapfnehdgailmaaGreat
open Go.RowKit Go.Sat Go.Maps
theorem ok_rename {D:zAA}(h:D.OK){o n:Bs}{f:zAS}(d:Sat.get o D.files=some f)(hn:okN n=true):zAA.OK {D with files:=put n f (del o D.files) } where
 srt:=zBr (zCU h.srt)
 room:=h.room
 used:=by
  show zBM zAA.size (put n f (del o D.files))≤D.room
  have g:D.used=zAA.size f+zBM zAA.size (del o D.files):=zC0 h.srt d;have i:=h.used;rw[sum_put];cases c:Sat.get n (del o D.files)with
  | none=>rw[zC1 c];omega
  | some f2 =>
   have j:zBM zAA.size (del o D.files)=zAA.size f2+zBM zAA.size (del n (del o D.files)):=zC0 (zCU h.srt) c;omega
 count:=by
  show(put n f (del o D.files)).length≤4096
  have g:=len_del h.srt d;have i:=zD6 n (del o D.files);have j:=h.count;rw[zFm];omega
 names p b:=by
  rcases zBl.1 b with rfl|⟨b,_⟩
  ·exact hn
  ·exact h.names p (zBT.1 b).1
 lasts p b:=by
  rcases zBl.1 b with rfl|⟨b,_⟩
  ·exact h.lasts (o,f) (zBv d)
  ·exact h.lasts p (zBT.1 b).1
 fuse:=h.fuse
section
variable {w:World} {d m:Nat} {left:Int} {L:List (Bs×zCA)} {own:Own} {D:zAA}
theorem ren_file (h:zAc w d m left L own D){o n:Bs}{r:zCA}(j:Sat.get o L=some r){w':World}(y:w.heap.size≤w'.heap.size)(s:∀k,k<w.heap.size→k≠m→w'.heap[k]?=w.heap[k]?)
  (t:∃q,w'.ownsMap prog 9 ptrR m q (dm fbD (put n r (del o L)))) (hn:okN n=true) :
  ∃own',zAc w' d m left (put n r (del o L)) own' {D with files:=put n r.f (del o D.files) }∧Ext w own own':=by
 refine h.remap (L':=put n r (del o L)) y s t (zBr (zCU h.srt)) rfl rfl (by rw[mp_put,mp_del,←h.files]) (ok_rename h.ok (by rw[h.get,j];rfl) hn) (fun p b=>?_) (fun p b q g e=>?_)
 ·rcases zBl.1 b with rfl|⟨b,_⟩
  ·exact⟨_,zBv j,rfl⟩
  ·exact⟨p,(zBT.1 b).1,rfl⟩
 ·have v:=h.fileAt j;have c:∀p,p∈del o L→p.2.fb=r.fb→False:=fun p b e=>by
   have i:=(h.file p (zBT.1 b).1).ob;rw[e,v.ob]at i;exact(zBT.1 b).2 (by simpa using i.symm)
  rcases zBl.1 b with rfl|⟨b,_⟩
  ·rcases zBl.1 g with rfl|⟨g,_⟩
   ·rfl
   ·exact(c q g e.symm).elim
  ·rcases zBl.1 g with rfl|⟨g,_⟩
   ·exact(c p b e).elim
   ·have i:=(h.file p (zBT.1 b).1).ob;have l:=(h.file q (zBT.1 g).1).ob;rw[e,l]at i;exact zGJ h.srt (zBT.1 b).1 (zBT.1 g).1 (by simpa using i.symm)
theorem strs_two (w:World)(o s:ByteArray):zEq (w.alloc (.cells #[.string o,.string s] 9)) (some ⟨w.heap.size,0,none⟩) [o,s]:=strs_new w [o,s] _ rfl _ (0,0)
theorem rename_bad (h:zAc w d m left L own D)(o s:ByteArray)(g:o.size≤9223372036854775807)(i:s.size≤9223372036854775807)(q:D.may [nm o,nm s]≠0) :
  Calls prog 160 #[.pointer (some ⟨d,0,none⟩),.string o,.string s] w (zDO w d own (D,D.may [nm o,nm s])):=by
 have c:=h.chg (Chg.alloc w (.cells #[.string o,.string s] 9)) (fun k n=>n.elim);have f:=zBk c _ [o,s] 2 (strs_two w o s) (by simp) (by simp;exact⟨g,i⟩);simp only[List.map_cons,List.map_nil]at f;have b:=zW (zDO w d own (D,D.may [nm o,nm s]) (.returned (.int .i64 (D.may [nm o,nm s]:Int))) (w.alloc (.cells #[.string o,.string s] 9))) (
  ⟨own,rfl,⟨m,left,L,c⟩,(Chg.alloc w _).mono fun _ _ h=>h.elim,zCf _ _⟩)
 generalize D.may [nm o,nm s]=l at *;have p:((l:Int) != 0)=true:=by simp;omega
 have j:=zh f;clear h f c
 go_enter func160,ntmps160
 go_wp2_with fail;refine j.o.mono ?_;rintro e w' ⟨rfl,rfl⟩;go_wp2_with fail;go_ret;exact b.o
theorem rename_none (h:zAc w d m left L own D)(o s:ByteArray)(j:o.size≤9223372036854775807)(p:s.size≤9223372036854775807)(y:D.may [nm o,nm s]=0)(t:Sat.get (nm o) L=none) :
  Calls prog 160 #[.pointer (some ⟨d,0,none⟩),.string o,.string s] w (zDO w d own (D,7)):=by
 have i:=h.chg (Chg.alloc w (.cells #[.string o,.string s] 9)) (fun k v=>v.elim);have n:=zBk i _ [o,s] 2 (strs_two w o s) (by simp) (by simp;exact⟨j,p⟩);simp only[List.map_cons,List.map_nil,y]at n;have b:=zBq _ zCB underlying9 underlying113 (zBz _) zCA.fb i.map j t;have f:=i.c1;have g:=zW (zDO w d own (D,7) (.returned (.int .i64 (7:Int))) (w.alloc (.cells #[.string o,.string s] 9))) (
  ⟨own,rfl,⟨m,left,L,i⟩,(Chg.alloc w _).mono fun _ _ h=>h.elim,zCf _ _⟩)
 have r:=zh n;have c:=zh b;have l:=zh f;clear h n i b f;generalize q:w.alloc (.cells #[.string o,.string s] 9)=z at *
 go_enter func160,ntmps160
 go_wp2_with fail;have b:=c.o;have f:=l.o;refine r.o.mono ?_;rintro e w' ⟨rfl,rfl⟩;clear q;go_wp2_with fail;go_ret;exact g.o
theorem rename_some (h:zAc w d m left L own D)(o s:ByteArray)(E:o.size≤9223372036854775807)(O:s.size≤9223372036854775807)(hm:D.may [nm o,nm s]=0){r:zCA}(K:Sat.get (nm o) L=some r) :
  Calls prog 160 #[.pointer (some ⟨d,0,none⟩),.string o,.string s] w (zDO w d own (zAA.done {D with files:=put (nm s) r.f (del (nm o) D.files) },0)):=by
 have F:=h.chg (Chg.alloc w (.cells #[.string o,.string s] 9)) (fun k J=>J.elim);have X:=zBk F _ [o,s] 2 (strs_two w o s) (by simp) (by simp;exact⟨E,O⟩);simp only[List.map_cons,List.map_nil,hm]at X;have l:=zB9 _ zCB underlying9 underlying113 (zBz _) zCA.fb F.map E K;have B:=F.c1;have M:=WideMaps.keyOf_string_mk underlying9 E;have C:=WideMaps.keyOf_string_mk underlying9 O;have hz:=zDj hm;have I:=hz.1;have y:okN (nm s)=true:=by
  have:=hz.2;simp at this;exact this.2
 have hN:L.length<maxLen:=by
  have h3:=h.ok.count;rw[h.len]at h3;unfold maxLen;omega
 have Hw:=zh (Chg.alloc w (.cells #[.string o,.string s] 9));have z:=zh F;have Hc:=zh X;have A:=zh l;have Q:=zh B;have V:=zh y;have R:=zh I;have Hg:=zh K;have v:=F.map;have H:=zh v;clear h X F l B hz y hm K v I;generalize aa:w.alloc (.cells #[.string o,.string s] 9)=w0 at *
 go_enter func160,ntmps160
 go_wp2_with fail;have l:=A.o;have B:=Q.o;refine Hc.o.mono ?_;rintro e w' ⟨rfl,rfl⟩;clear aa;go_wp2_with (first|(at_delete;refine wpList_delete_own _ rfl _ _ 113 9 rfl 121 zCB underlying113 ptrR m L.length (dm fbD L) rfl H.o _ _ rfl M ?_;intro w1 g b;have ab:=zAG (i:=1) (zEQ b.grown z.o.cells (fun e=>z.o.ne_of z.o.od z.o.om (by simp) (by cases e;rfl))) rfl;have Hf:=zh (And.intro g b);clear g b)|(at_mapUpdate;refine wpList_mapUpdate_own _ rfl _ _ _ 113 rfl 9 121 zCB underlying113 ptrR m L.length _ rfl Hf.o.1 hN _ _ _ rfl rfl C (.held r.fb) [] rfl ?_;intro w3 c j;have S:=zh (And.intro c j);clear c j))
 obtain⟨g,b⟩:=Hf.o;obtain⟨c,j⟩:=S.o;have q:=b.grown;have hb:∀k,k<w0.heap.size→k≠m→w3.heap[k]?=w0.heap[k]?:=fun k J N=>by
  have:=q.size;rw[j.block k (by omega) (by intro e;cases e;exact N rfl),q.block k J (by intro e;cases e;exact N rfl)]
 rw[show(.held r.fb:DataW Nat)=fbD r from rfl,dm_del,dm_put]at c;obtain⟨own',h4,hx⟩:=ren_file z.o Hg.o (w':=w3) (n:=nm s) (Nat.le_trans q.size j.size) hb ⟨_,c⟩ V.o;have t:Chg (Has own) w w3:=(Hw.o.mono (T:=Has own) fun _ _ h=>h.elim).trans (((Chg.of_grown q).trans (Chg.of_grown j) fun _ _ h=>h).mono fun k _ e=>by cases e;exact has_m z.o) fun _ _ h=>h;have p:=zDM h4 R.o;have a:=zh p;have G:=zh t;have Hx:=zh hx;have P:=Hw.o.size;have W:=zh P;have U:=zh (has_d z.o);clear g b c j q hb h4 hx t p P;refine a.o.mono ?_;rintro e w5 ⟨rfl,Z,Y⟩;go_wp2_with fail;go_ret;exact⟨own',rfl,Z,G.o.trans Y fun i _ e=>by rw[e];exact U.o,fun k J=>Hx.o k (Nat.lt_of_lt_of_le J W.o)⟩
theorem rename_calls (h:zCa w d D own)(o s:ByteArray)(b:o.size≤9223372036854775807)(c:s.size≤9223372036854775807) :
  Calls prog 160 #[.pointer (some ⟨d,0,none⟩),.string o,.string s] w (zDO w d own (D.rename (nm o) (nm s))):=by
 obtain⟨m,left,L,h⟩:=h;unfold zAA.rename
 by_cases f:D.may [nm o,nm s]=0
 ·rw[if_neg (by simpa using f),h.get];cases g:Sat.get (nm o) L with
  | none=>exact rename_none h o s b c f g
  | some r=>exact rename_some h o s b c f g
 ·rw[if_pos (by simpa using f)];exact rename_bad h o s b c f
end
theorem st_rename {w w1:World}{d:Nat}{D:zAA}{F:Nat→Prop}(h:St w w1 d D F)(o s:ByteArray)(f:o.size≤9223372036854775807)(g:s.size≤9223372036854775807) :
  Calls prog 160 #[.pointer (some ⟨d,0,none⟩),.string o,.string s] w1 (Told w d F w1 (D.rename (nm o) (nm s))):=by
 obtain⟨own,k,i,c,hF⟩:=h;refine(rename_calls k o s f g).mono ?_;rintro e w' ⟨own',rfl,b,j,l⟩;exact⟨rfl,St.step i c hF b j l⟩
end Go.Proofs.YtapfnehdgailmaaGreat
namespace Go.Sat
open Go.RowKit Go.Maps
theorem bb_lt:∀(a b:Bs),bytesBefore a b=true↔a<b
 | [],[]=>by simp[bytesBefore]
 | [],_::_=>by simp[bytesBefore]
 | _::_,[]=>by simp[bytesBefore]
 | a::r,b::s=>by
  rw[List.cons_lt_cons_iff,←bb_lt r s];simp[bytesBefore]
end Go.Sat
namespace Go.Proofs.YtapfnehdgailmaaGreat
open Go.RowKit Go.Sat Go.Maps
def OwnN (w:World)(v:Value)(ns:List Bs):Prop:=OwnR w 9 1 v ns.length (ns.map encStr)
def namesOf (D:zAA):List Bs:=D.files.map (·.1)
section
variable {w:World} {d m:Nat} {left:Int} {L:List (Bs×zCA)} {own:Own} {D:zAA}
end
def HasN (w:World)(v:Value)(l:List Bs):Prop:=zAM w 1 v l.length (l.map encStr)
theorem HasN.slice {w:World}{v:Value}{l:List Bs}(h:HasN w v l):∃p c,v=.slice p l.length c:=by
 obtain⟨_,p,c,e,_⟩:=h;exact⟨p,c,e⟩
theorem HasN.at {w:World}{v:Value}{l:List Bs}(h:HasN w v l):l=[]∨∃b o c,v=.slice (some ⟨b,o,none⟩) l.length c∧∀i x,l[i]?=some x→w.cell? ⟨b,o+i,none⟩=some (encStr x):=by
 obtain⟨q,p,c,rfl,g,f⟩:=h;cases p with
 | none =>
  left
  have:=g rfl;exact List.length_eq_zero_iff.1 this
 | some a =>
  cases l with
  | nil=>exact .inl rfl
  | cons x r =>
   obtain⟨b,o,n⟩:=a;have j:=f _ rfl 0 (encStr x) (by simp);have d:n=none:=by
    have:=World.cell?_spot j;simpa[Addr.add]using this
   subst d;refine .inr ⟨b,o,c,rfl,fun i y m=>?_⟩;have k:=f _ rfl i (encStr y) (by rw[List.getElem?_map,m];rfl);have e:(⟨b,o,none⟩:Addr).add i=⟨b,o+i,none⟩:=by unfold Addr.add;split<;>simp_all
   rw[←e];exact k
def zAF (n:Bs):Bs:=n++[126]
namespace zAA
def save0 (D:zAA)(n:Bs):zAA×Nat:=if(get (zAF n) D.files).isSome then D.remove [zAF n]else(D,0)
def save1 (D:zAA)(n b:Bs):zAA×Nat :=
 let r0:=D.save0 n
 if r0.2≠0 then r0 else
 let r1:=r0.1.append (zAF n) b
 if r1.2≠0 then r1 else
 let r2:=r1.1.sync [zAF n]
 if r2.2≠0 then r2 else r2.1.rename (zAF n) n
def save (D:zAA)(n l:Bs):zAA×Nat:=if n.length<1∨60<n.length then(D,1)else save1 D n (zAK l)
end zAA
theorem there_calls {w w1:World}{d:Nat}{D:zAA}{F:Nat→Prop}(h:St w w1 d D F)(s:ByteArray)(j:s.size≤9223372036854775807) :
  Calls prog 185 #[.pointer (some ⟨d,0,none⟩),.string s] w1 fun e w'=>e=.returned (.bool (Sat.get (nm s) D.files).isSome)∧Below w1.heap.size w1 w'∧St w w' d D F:=by
 have H:=zh (st_read h s j);clear h
 go_enter func185,ntmps185
 cases i:Sat.get (nm s) D.files with
 | none =>
  rw[i]at H;go_wp2_with fail;refine H.o.mono ?_;rintro e w' ⟨v,rfl,-,-,c,b⟩;have g:=zh (And.intro c b);clear c b;go_wp2_with fail;go_ret;exact⟨rfl,g.o⟩
 | some f =>
  rw[i]at H;go_wp2_with fail;refine H.o.mono ?_;rintro e w' ⟨v,rfl,-,-,c,b⟩;have g:=zh (And.intro c b);clear c b;go_wp2_with fail;go_ret;exact⟨rfl,g.o⟩
theorem zBG (s:ByteArray):nm (s++⟨#[126]⟩)=zAF (nm s):=by
 simp[nm,zAF]
end Go.Proofs.YtapfnehdgailmaaGreat
namespace Go.Sat
open Go.RowKit
theorem zAY.same {w w':World}{v:Value}{l:Bs}(h:zAY w v l)(m:∀k,v.ownBlock=some k→w'.heap[k]?=w.heap[k]?):zAY w' v l:=by
 obtain⟨j,p,b,rfl,d,g⟩:=h;refine⟨j,p,b,rfl,d,fun a c i u n=>?_⟩;have f:(a.add i).block=a.block:=zDT _ _;exact(World.cell?_of_block (by rw[f];exact m _ (by rw[c];rfl))).trans (g a c i u n)
theorem zAY.lt {w:World}{v:Value}{l:Bs}(h:zAY w v l)(b:l≠[]){k:Nat}(d:v.ownBlock=some k):k<w.heap.size:=by
 obtain⟨m,p,f,rfl,j,i⟩:=h;cases p with
 | none=>cases d
 | some a =>
  cases l with
  | nil=>exact absurd rfl b
  | cons x r =>
   have g:=i a rfl 0 (.int .u8 (x.toNat:Int)) (by simp[zAQ]);have c:=World.block_lt_of_cell? w _ g;rw[zDT]at c;cases d;exact c
end Go.Sat
namespace Go.Proofs.YtapfnehdgailmaaGreat
open Go.RowKit Go.Sat Go.Maps
def Fv (F:Nat→Prop)(v:Value)(k:Nat):Prop:=F k∨v.ownBlock=some k
theorem St.less {w w1:World}{d:Nat}{D:zAA}{F F':Nat→Prop}(h:St w w1 d D F')(hF:∀k,F k→F' k):St w w1 d D F :=
 h.move (S:=fun _=>False) (Chg.refl _ _) (fun _ _ h=>h.elim) fun k b=>⟨.inl (hF k b),by obtain⟨_,_,_,_,c⟩:=h;exact c k (hF k b)⟩
theorem St.flt {w w1:World}{d:Nat}{D:zAA}{F:Nat→Prop}(h:St w w1 d D F){k:Nat}(b:F k):k<w1.heap.size:=by
 obtain⟨_,_,_,_,c⟩:=h;exact c k b
theorem zCz {w w1 w2:World}{d:Nat}{D:zAA}{F:Nat→Prop}(h:St w w1 d D F)(b:Below w1.heap.size w1 w2):Same F w1 w2:=fun k c=>b.block k (h.flt c)
theorem Same.trans {F:Nat→Prop}{w1 w2 w3:World}(h:Same F w1 w2)(k:Same F w2 w3):Same F w1 w3:=fun i b=>(k i b).trans (h i b)
theorem zEg {w w1 w2:World}{d:Nat}{F:Nat→Prop}{v:Value}{r:zAA×Nat}{e:Ending}(c:Same F w1 w2){w':World}(h:Told w d (Fv F v) w2 r e w'):Told w d F w1 r e w' :=
 ⟨h.1,h.2.1.less fun _ b=>.inl b,fun k b=>(h.2.2 k (.inl b)).trans (c k b)⟩
theorem save1_rem {D d:zAA}{n b:Bs}{c:Nat}(f:D.save0 n=(d,c))(g:c≠0):D.save1 n b=(d,c):=by
 unfold zAA.save1;simp only[f];rw[if_pos g]
theorem save1_app {D d f:zAA}{n b:Bs}{c:Nat}(g:D.save0 n=(d,0))(i:d.append (zAF n) b=(f,c))(j:c≠0):D.save1 n b=(f,c):=by
 unfold zAA.save1;simp only[g,i];rw[if_neg (by simp),if_pos j]
theorem save1_syn {D d f g:zAA}{n b:Bs}{c:Nat}(i:D.save0 n=(d,0))(j:d.append (zAF n) b=(f,0))(k:f.sync [zAF n]=(g,c))(l:c≠0):D.save1 n b=(g,c):=by
 unfold zAA.save1;simp only[i,j,k];rw[if_neg (by simp),if_neg (by simp),if_pos l]
theorem save1_ren {D c d f:zAA}{n b:Bs}(g:D.save0 n=(c,0))(i:c.append (zAF n) b=(d,0))(j:d.sync [zAF n]=(f,0)):D.save1 n b=f.rename (zAF n) n:=by
 unfold zAA.save1;simp only[g,i,j];rw[if_neg (by simp),if_neg (by simp),if_neg (by simp)]
theorem save_calls {w w1:World}{d:Nat}{D:zAA}{F:Nat→Prop}(h:St w w1 d D F)(s:ByteArray)(hs:s.size≤9223372036854775807){p:Option Addr}{n c:Nat}{ls:List Bs}(hx:zBF w1 (.slice p n c) ls)(hn:n≤140737488355328)(hl:ls.flatten.length≤1048576) :
  Calls prog 135 #[.pointer (some ⟨d,0,none⟩),.string s,.slice p n c] w1 (Told w d F w1 (D.save (nm s) ls.flatten)):=by
 have ak:(nm s).length=s.size:=nm_len s
 by_cases T:(nm s).length<1∨60<(nm s).length
 ·have hM:D.save (nm s) ls.flatten=(D,1):=by unfold zAA.save;rw[if_pos T]
  rw[hM];have V:=zW (Told w d F w1 (D,1) (.returned (.int .i64 1)) w1) (⟨rfl,h,fun _ _=>rfl⟩);rw[ak]at T;generalize au:s.size=z at *;clear hM h hx;have ap:(decide ((z:Int)<1)||decide (60<(z:Int)))=true:=by simp;omega
  by_cases hz:z<1
  ·have ad:z=0:=by omega
   subst ad
   go_enter func135,ntmps135
   go_wp2_with fail;go_ret;exact V.o
  ·have ar:60<z:=by omega
   go_enter func135,ntmps135
   go_wp2_with fail;go_ret;exact V.o
 ·have hM:D.save (nm s) ls.flatten=zAA.save1 D (nm s) (zAK ls.flatten):=by unfold zAA.save;rw[if_neg T]
  rw[hM];have He:=zh (enc_calls hx hn hl);have j:=zh h;rw[ak]at T;have t:(s++(⟨#[126]⟩:ByteArray)).size=s.size+1:=by simp[ByteArray.size_append];rfl
  generalize hz:s.size=z at *;have Hl:=zh hl;clear hM h hx hl
  go_enter func135,ntmps135
  go_wp2_with fail;refine He.o.mono ?_;rintro e w2 ⟨v,rfl,hv,X,hb⟩;have al:∀k,v.ownBlock=some k→k<w2.heap.size:=fun k g=>hv.lt (by simp[zAK,zCH,zA1]) g;have N:St w w2 d D (Fv F v):=j.o.move (S:=fun _=>False) (Chg.of_below hb) (fun _ _ h=>h.elim) fun k g=>by
   rcases g with g|g
   ·exact⟨.inl g,Nat.lt_of_lt_of_le (j.o.flt g) hb.size⟩
   ·exact⟨.inr (X k g),al k g⟩
  have a:Same (fun k=>F k) w1 w2:=zCz j.o hb;have ai:=zh (there_calls N (s++(⟨#[126]⟩:ByteArray)) (by rw[t];omega));rw[zBG]at ai;have W:=zh hv;have am:=zh a;have ag:=zh N;clear hv X hb al N a;go_wp2_with fail;refine ai.o.mono ?_;rintro e w3 ⟨rfl,ab,Y⟩;obtain⟨pv,cv,rfl⟩:=W.o.slice;generalize aq:(zAK ls.flatten).length=O at *;have j:=zh Y;have Hs:=zh (am.o.trans (zCz (ag.o.less fun _ g=>.inl g) ab));have W:=zh (W.o.below ab);clear ab Y;cases hg:Sat.get (zAF (nm s)) D.files with
  | none =>
   have P:D.save0 (nm s)=(D,0):=by unfold zAA.save0;rw[hg];rfl
   have l:=st_append (j.o.alloc (.cells #[.slice pv O cv] 22)) (s++(⟨#[126]⟩:ByteArray)) (.slice (some ⟨w3.heap.size,0,none⟩) 1 1) [zAK ls.flatten] (zCN (v:=.slice pv O cv) W.o 22 (0,0) _ 1 rfl (Nat.le_refl _)) (by simp) (by rw[List.flatten_cons,List.flatten_nil,List.append_nil,zAe];have:=Hl.o;omega) (by rw[t];omega);rw[zBG,List.flatten_cons,List.flatten_nil,List.append_nil]at l;have E:=zh (Hs.o.trans (zCz (F:=F) (j.o.less fun _ g=>.inl g) ((Below.refl w3.heap.size w3).alloc (Nat.le_refl _) (.cells #[.slice pv O cv] 22))));cases Q:zAA.append D (zAF (nm s)) (zAK ls.flatten)with
   | mk D1 e1 =>
    rw[Q]at l;have C:=zh l
    by_cases I:e1=0
    ·subst I;clear l;go_wp2_with fail;refine C.o.mono ?_;rintro e B ⟨rfl,b,L⟩;have b:St w B d D1 (Fv F (.slice pv O cv)):=b;have m:=st_sync b [s++(⟨#[126]⟩:ByteArray)] B.heap.size 1 rfl (0,0) (by simp) (by simp[t];omega);rw[show [s++(⟨#[126]⟩:ByteArray)].map nm=[zAF (nm s)] by rw[List.map_cons,zBG,List.map_nil]]at m;have G:=zh (E.o.trans (Same.trans (fun k g=>L k (.inl g)) (zCz (F:=F) (b.less fun _ g=>.inl g) ((Below.refl B.heap.size B).alloc (Nat.le_refl _) (.cells #[.string (s++(⟨#[126]⟩:ByteArray))] 9)))));clear L b;cases h2:zAA.sync D1 [zAF (nm s)]with
     | mk D2 e2 =>
      rw[h2]at m;have H:=zh m
      by_cases J:e2=0
      ·subst J;clear m;go_wp2_with fail;refine H.o.mono ?_;rintro e w6 ⟨rfl,i,M⟩;have i:St w w6 d D2 (Fv F (.slice pv O cv)):=i;have y:=st_rename i (s++(⟨#[126]⟩:ByteArray)) s (by rw[t];omega) (by omega);rw[zBG,←save1_ren P Q h2]at y;have K:=zh y;have aa:=zh (G.o.trans (fun k g=>M k (.inl g)));clear y M i;go_wp2_with fail;refine K.o.mono ?_;intro e w7 r;have q:=zEg aa.o r;obtain⟨rfl,-⟩:=r;have A:=zh q;clear q;go_wp2_with fail;go_ret;exact A.o
      ·have R:((e2:Int) != 0)=true:=by simp;omega
       clear m;go_wp2_with fail;refine H.o.mono ?_;intro e w6 r;have q:Told w d F w1 (D.save1 (nm s) (zAK ls.flatten)) e w6:=by rw[save1_syn P Q h2 J];exact zEg G.o r
       obtain⟨rfl,-⟩:=r;have A:=zh q;clear q;go_wp2_with fail;go_ret;exact A.o
    ·have R:((e1:Int) != 0)=true:=by simp;omega
     clear l;go_wp2_with fail;refine C.o.mono ?_;intro e B r;have q:Told w d F w1 (D.save1 (nm s) (zAK ls.flatten)) e B:=by rw[save1_app P Q I];exact zEg E.o r
     obtain⟨rfl,-⟩:=r;have A:=zh q;clear q;go_wp2_with fail;go_ret;exact A.o
  | some f =>
   have U:=st_remove j.o [s++(⟨#[126]⟩:ByteArray)] w3.heap.size 1 rfl (0,0) (by simp) (by simp[t];omega);rw[show [s++(⟨#[126]⟩:ByteArray)].map nm=[zAF (nm s)] by rw[List.map_cons,zBG,List.map_nil]]at U;have af:=zh (Hs.o.trans (zCz (j.o.less fun _ g=>.inl g) ((Below.refl w3.heap.size w3).alloc (Nat.le_refl _) (.cells #[.string (s++(⟨#[126]⟩:ByteArray))] 9))));cases P:D.save0 (nm s)with
   | mk D0 e0 =>
    have ad:zAA.remove D [zAF (nm s)]=(D0,e0):=by rw[←P];unfold zAA.save0;rw[hg];rfl
    rw[ad]at U;have ae:=zh U;clear U
    by_cases aj:e0=0
    ·subst aj;go_wp2_with fail;refine ae.o.mono ?_;rintro e w4 ⟨rfl,Z,ac⟩;have ah:=zW (St w w4 d D0 (Fv F (.slice pv O cv))) Z;have ao:=zh ((W.o.below ((Below.refl w3.heap.size w3).alloc (Nat.le_refl _) (.cells #[.string (s++(⟨#[126]⟩:ByteArray))] 9))).same fun k g=>ac k (.inr g));have an:=zh (af.o.trans (fun k g=>ac k (.inl g)));clear j W Hs Z ac;have j:=ah;have W:=ao;have Hs:=an;have l:=st_append (j.o.alloc (.cells #[.slice pv O cv] 22)) (s++(⟨#[126]⟩:ByteArray)) (.slice (some ⟨w4.heap.size,0,none⟩) 1 1) [zAK ls.flatten] (zCN (v:=.slice pv O cv) W.o 22 (0,0) _ 1 rfl (Nat.le_refl _)) (by simp) (by rw[List.flatten_cons,List.flatten_nil,List.append_nil,zAe];have:=Hl.o;omega) (by rw[t];omega);rw[zBG,List.flatten_cons,List.flatten_nil,List.append_nil]at l;have E:=zh (Hs.o.trans (zCz (F:=F) (j.o.less fun _ g=>.inl g) ((Below.refl w4.heap.size w4).alloc (Nat.le_refl _) (.cells #[.slice pv O cv] 22))));cases Q:zAA.append D0 (zAF (nm s)) (zAK ls.flatten)with
     | mk D1 e1 =>
      rw[Q]at l;have C:=zh l
      by_cases I:e1=0
      ·subst I;clear l;go_wp2_with fail;refine C.o.mono ?_;rintro e B ⟨rfl,b,L⟩;have b:St w B d D1 (Fv F (.slice pv O cv)):=b;have m:=st_sync b [s++(⟨#[126]⟩:ByteArray)] B.heap.size 1 rfl (0,0) (by simp) (by simp[t];omega);rw[show [s++(⟨#[126]⟩:ByteArray)].map nm=[zAF (nm s)] by rw[List.map_cons,zBG,List.map_nil]]at m;have G:=zh (E.o.trans (Same.trans (fun k g=>L k (.inl g)) (zCz (F:=F) (b.less fun _ g=>.inl g) ((Below.refl B.heap.size B).alloc (Nat.le_refl _) (.cells #[.string (s++(⟨#[126]⟩:ByteArray))] 9)))));clear L b;cases h2:zAA.sync D1 [zAF (nm s)]with
       | mk D2 e2 =>
        rw[h2]at m;have H:=zh m
        by_cases J:e2=0
        ·subst J;clear m;go_wp2_with fail;refine H.o.mono ?_;rintro e w6 ⟨rfl,i,M⟩;have i:St w w6 d D2 (Fv F (.slice pv O cv)):=i;have y:=st_rename i (s++(⟨#[126]⟩:ByteArray)) s (by rw[t];omega) (by omega);rw[zBG,←save1_ren P Q h2]at y;have K:=zh y;have aa:=zh (G.o.trans (fun k g=>M k (.inl g)));clear y M i;go_wp2_with fail;refine K.o.mono ?_;intro e w7 r;have q:=zEg aa.o r;obtain⟨rfl,-⟩:=r;have A:=zh q;clear q;go_wp2_with fail;go_ret;exact A.o
        ·have R:((e2:Int) != 0)=true:=by simp;omega
         clear m;go_wp2_with fail;refine H.o.mono ?_;intro e w6 r;have q:Told w d F w1 (D.save1 (nm s) (zAK ls.flatten)) e w6:=by rw[save1_syn P Q h2 J];exact zEg G.o r
         obtain⟨rfl,-⟩:=r;have A:=zh q;clear q;go_wp2_with fail;go_ret;exact A.o
      ·have R:((e1:Int) != 0)=true:=by simp;omega
       clear l;go_wp2_with fail;refine C.o.mono ?_;intro e B r;have q:Told w d F w1 (D.save1 (nm s) (zAK ls.flatten)) e B:=by rw[save1_app P Q I];exact zEg E.o r
       obtain⟨rfl,-⟩:=r;have A:=zh q;clear q;go_wp2_with fail;go_ret;exact A.o
    ·have R:((e0:Int) != 0)=true:=by simp;omega
     go_wp2_with fail;refine ae.o.mono ?_;intro e w4 r;have q:Told w d F w1 (D.save1 (nm s) (zAK ls.flatten)) e w4:=by rw[save1_rem P aj];exact zEg af.o r
     obtain⟨rfl,-⟩:=r;have A:=zh q;clear q;go_wp2_with fail;go_ret;exact A.o
theorem zFI {D:zAA}(h:D.OK)(n:Bs):(zDC (Sat.get n D.files)).length≤1073741824:=by
 cases c:Sat.get n D.files with
 | none=>simp[zDC]
 | some f =>
  have b:zAA.size f≤D.used:=le_sum h.srt c;have d:=h.used;have g:=h.room
  show f.data.length≤_
  unfold zAA.size at b;omega
def loadE (o:Option zAS):Nat:=if o.isSome then(if oneE (zDC o)=0 then 0 else 3)else 7
def zEX (o:Option zAS):Bs:=if o.isSome then oneB (zDC o)else []
theorem zD7:loadE none=7:=by unfold loadE;exact if_neg (by decide)
theorem loadB_none:zEX none=[]:=by unfold zEX;exact if_neg (by decide)
theorem loadE_some (f:zAS):loadE (some f)=if oneE (zDC (some f))=0 then 0 else 3:=by unfold loadE;exact if_pos (by rfl)
theorem zFR (f:zAS):zEX (some f)=oneB (zDC (some f)):=by unfold zEX;exact if_pos (by rfl)
def GotL (w:World)(d:Nat)(D:zAA)(F:Nat→Prop)(w1:World)(o:Option zAS)(e:Ending)(w':World):Prop :=
 ∃v,e=.returned (.tuple #[v,.int .i64 (loadE o:Int)])∧zAk w' 5 v (zEX o)∧(∀k,v.ownBlock=some k→w1.heap.size≤k)∧Below w1.heap.size w1 w'∧St w w' d D F
theorem zEA {w:World}{e:TypeId}{v:Value}{l:Bs}(h:zAk w e v l):∃p c,v=.slice p l.length c∧l.length≤c:=by
 rcases h.2 with⟨rfl,hn⟩|⟨g,b,cur,rfl,_,d,_⟩
 ·exact⟨none,0,by rw[hn],by omega⟩
 ·exact⟨_,b,rfl,d⟩
theorem load_calls {w w1:World}{d:Nat}{D:zAA}{F:Nat→Prop}(h:St w w1 d D F)(s:ByteArray)(L:s.size≤9223372036854775807) :
  Calls prog 148 #[.pointer (some ⟨d,0,none⟩),.string s] w1 (GotL w d D F w1 (Sat.get (nm s) D.files)):=by
 have m:=zFI h.ok (nm s);have H:=zh (st_read h s L);clear h;cases G:Sat.get (nm s) D.files with
 | none =>
  rw[G]at H;clear m
  go_enter func148,ntmps148
  go_wp2_with fail;refine H.o.mono ?_;rintro e w2 ⟨v,rfl,-,-,r,i⟩;have q:=zW (GotL w d D F w1 none (.returned (.tuple #[.slice none 0 0,.int .i64 7])) w2) (⟨.slice none 0 0,by rw[zD7];rfl,by rw[loadB_none];exact OwnR.nil _ _ _,fun k t=>(by cases t),r,i⟩);clear r i;go_wp2_with fail
  go_ret2
  exact q.o
 | some f =>
  rw[G]at H m
  go_enter func148,ntmps148
  go_wp2_with fail;refine H.o.mono ?_;rintro e w2 ⟨v,rfl,n,-,r,i⟩;obtain⟨p,c,rfl,y⟩:=zEA n;have I:=zh (one_calls n.has y (by omega));have A:=zh i;have a:=zh r;have C:=loadE_some f;have B:=zFR f;generalize zDC (some f)=b at *;generalize M:b.length=N at *;clear n i r y m;go_wp2_with fail;refine I.o.mono ?_;rintro e w3 ⟨v,rfl,n,hn,j⟩;have l:=a.o.trans (j.mono a.o.size);have g:=A.o.next j
  by_cases z:oneE b=0
  ·have q:=zW (GotL w d D F w1 (some f) (.returned (.tuple #[v,.int .i64 0])) w3) (⟨v,by rw[C,if_pos z];rfl,by rw[B];exact n,fun k t=>Nat.le_trans a.o.size (hn k t),l,g⟩);rw[z];clear n hn j l g;go_wp2_with fail
   go_ret2
   exact q.o
  ·have q:=zW (GotL w d D F w1 (some f) (.returned (.tuple #[.slice none 0 0,.int .i64 3])) w3) (⟨.slice none 0 0,by rw[C,if_neg z];rfl,by rw[B];unfold oneB;rw[if_neg z];exact OwnR.nil _ _ _,fun k t=>(by cases t),l,g⟩);have J:((oneE b:Int) != 0)=true:=by simp;omega
   generalize oneE b=E at *;clear n hn j l g;go_wp2_with fail
   go_ret2
   exact q.o
structure LedM where
 base:Nat
 data:Bs
 entries:List Bs
 dead:Bool
namespace LedM
def none0:LedM:=⟨0,[],[],false⟩
def last (M:LedM):Nat:=M.base+M.entries.length
def die (M:LedM):LedM:={M with dead:=true}
end LedM
def logX:Bs:=[45,108,111,103]
def zAm (p:Bs):Bs:=p++logX
namespace zAA
def rid1 (D:zAA)(n:Bs):zAA×Nat:=if(get n D.files).isSome then D.remove [n]else(D,0)
def rid (D:zAA):List Bs→zAA×Nat
 | []=>(D,0)
 | n::r=>if(rid1 D n).2=0 then rid (rid1 D n).1 r else rid1 D n
end zAA
def tornOff (D:zAA)(n:Bs)(k b:Nat):zAA×Nat :=
 if k<b then(if(D.truncate n (k:Int)).2≠0 then D.truncate n (k:Int)else(D.truncate n (k:Int)).1.sync [n])else(D,0)
def layOn (D:zAA)(n b:Bs):zAA×Nat:=if(D.append n b).2≠0 then D.append n b else(D.append n b).1.sync [n]
end Go.Proofs.YtapfnehdgailmaaGreat
namespace Go.Sat
open Go.RowKit
theorem own_cut {w:World}{e:TypeId}{p:Option Addr}{n c:Nat}{l:Bs}(h:zAk w e (.slice p n c) l){y:Nat}(r:y≤l.length):zAk w e (.slice p y y) (l.take y):=by
 have f:(l.take y).length=y:=by rw[List.length_take];omega
 unfold zAk;rw[f];refine⟨by rw[zFG,f];omega,?_⟩;rcases h.2 with⟨b,hn⟩|⟨g,i,cur,b,m,o,j,k,q⟩
 ·cases b;have d:y=0:=by omega
  subst d;exact .inl ⟨rfl,rfl⟩
 ·cases b;refine .inr ⟨g,y,cur,rfl,m,Nat.le_refl _,by omega,by omega,?_⟩;rw[zFg,←q,List.take_take]
  congr 1
  omega
end Go.Sat
namespace Go.Proofs.YtapfnehdgailmaaGreat
open Go.RowKit Go.Sat Go.Maps
theorem ok_trunc {D:zAA}(h:D.OK){n:Bs}{f:zAS}(c:Sat.get n D.files=some f)(k:Nat):zAA.OK {D with files:=put n ⟨f.data.take k,min f.lasts k⟩ D.files} where
 srt:=zBr h.srt
 room:=h.room
 used:=by
  show zBM zAA.size (put n _ D.files)≤D.room
  rw[sum_put];have d:D.used=zAA.size f+zBM zAA.size (del n D.files):=zC0 h.srt c;have:=h.used;simp only[zAA.size,List.length_take]at d ⊢;omega
 count:=by
  show(put n _ D.files).length≤4096
  rw[zFm];have:=len_del h.srt c;have:=h.count;omega
 names p b:=by
  rcases zBl.1 b with rfl|⟨b,_⟩
  ·exact(h.names (n,f) (zBv c):okN n=true)
  ·exact h.names p b
 lasts p b:=by
  rcases zBl.1 b with rfl|⟨b,_⟩
  ·have d:f.lasts≤f.data.length:=h.lasts (n,f) (zBv c)
   show min f.lasts k≤(f.data.take k).length
   rw[List.length_take];omega
  ·exact h.lasts p b
 fuse:=h.fuse
section
variable {w:World} {d m:Nat} {left:Int} {L:List (Bs×zCA)} {own:Own} {D:zAA}
theorem trunc_bad (h:zAc w d m left L own D)(o:ByteArray)(g:o.size≤9223372036854775807)(z:Int)(p:D.may [nm o]≠0) :
  Calls prog 156 #[.pointer (some ⟨d,0,none⟩),.string o,.int .i64 z] w (zDO w d own (D,D.may [nm o])):=by
 have c:=h.chg (Chg.alloc w (.cells #[.string o] 9)) (fun k l=>l.elim);have f:=zBk c _ [o] 1 (zBc w o) (by simp) (by simpa using g);simp only[List.map_cons,List.map_nil]at f;have b:=zW (zDO w d own (D,D.may [nm o]) (.returned (.int .i64 (D.may [nm o]:Int))) (w.alloc (.cells #[.string o] 9))) (
  ⟨own,rfl,⟨m,left,L,c⟩,(Chg.alloc w _).mono fun _ _ h=>h.elim,zCf _ _⟩)
 generalize D.may [nm o]=j at *;have n:((j:Int) != 0)=true:=by simp;omega
 have i:=zh f;clear h f c
 go_enter func156,ntmps156
 go_wp2_with fail;refine i.o.mono ?_;rintro e w' ⟨rfl,rfl⟩;go_wp2_with fail;go_ret;exact b.o
theorem trunc_none (h:zAc w d m left L own D)(o:ByteArray)(j:o.size≤9223372036854775807)(z:Int)(t:D.may [nm o]=0)(r:Sat.get (nm o) L=none) :
  Calls prog 156 #[.pointer (some ⟨d,0,none⟩),.string o,.int .i64 z] w (zDO w d own (D,7)):=by
 have i:=h.chg (Chg.alloc w (.cells #[.string o] 9)) (fun k s=>s.elim);have n:=zBk i _ [o] 1 (zBc w o) (by simp) (by simpa using j);simp only[List.map_cons,List.map_nil,t]at n;have b:=zBq _ zCB underlying9 underlying113 (zBz _) zCA.fb i.map j r;have f:=i.c1;have g:=zW (zDO w d own (D,7) (.returned (.int .i64 (7:Int))) (w.alloc (.cells #[.string o] 9))) (
  ⟨own,rfl,⟨m,left,L,i⟩,(Chg.alloc w _).mono fun _ _ h=>h.elim,zCf _ _⟩)
 have q:=zh n;have c:=zh b;have l:=zh f;clear h n i b f;generalize p:w.alloc (.cells #[.string o] 9)=v at *
 go_enter func156,ntmps156
 go_wp2_with fail;have b:=c.o;have f:=l.o;refine q.o.mono ?_;rintro e w' ⟨rfl,rfl⟩;clear p;go_wp2_with fail;go_ret;exact g.o
theorem trunc_some (h:zAc w d m left L own D)(o:ByteArray)(F:o.size≤9223372036854775807)(z:Int)(hz:-9223372036854775808≤z)(an:z≤9223372036854775807)(R:D.may [nm o]=0){r:zCA}(H:Sat.get (nm o) L=some r) :
  Calls prog 156 #[.pointer (some ⟨d,0,none⟩),.string o,.int .i64 z] w (zDO w d own (if z<0∨(r.f.data.length:Int)<z then(D,1)else(zAA.done {D with files:=put (nm o) ⟨r.f.data.take z.toNat,min r.f.lasts z.toNat⟩ D.files},0))):=by
 have b:=h.chg (Chg.alloc w (.cells #[.string o] 9)) (fun k N=>N.elim);have J:=zBk b _ [o] 1 (zBc w o) (by simp) (by simpa using F);simp only[List.map_cons,List.map_nil,R]at J;have ac:=zB9 _ zCB underlying9 underlying113 (zBz _) zCA.fb b.map F H;have ai:=b.c1;have af:=WideMaps.keyOf_string_mk underlying9 F;have G:=zDj R;have q:Sat.get (nm o) D.files=some r.f:=by rw[h.get,H];rfl
 have n:=b.fileAt H;have ak:r.f.data.length≤1073741824:=by
  have h5:zAA.size r.f≤D.used:=le_sum h.ok.srt q;have h6:=h.ok.used;have h7:=h.ok.room;unfold zAA.size at h5;omega
 obtain⟨pv,cv,ev,al⟩:∃p c,r.v=.slice p r.f.data.length c∧r.f.data.length≤c:=by
  rcases n.row.2 with⟨e,hn⟩|⟨g,V,cur,e,_,ad,_⟩
  ·exact⟨none,0,by rw[e,hn],by omega⟩
  ·exact⟨_,V,e,ad⟩
 have Z:=zAG (i:=0) n.cells rfl;have aj:=zAG (i:=1) n.cells rfl;have aa:=zAE n.cells 0;have ab:=zAE n.cells 1;rw[ev]at Z
 by_cases hb:z<0∨(r.f.data.length:Int)<z
 ·rw[if_pos hb];have t:=zW (zDO w d own (D,1) (.returned (.int .i64 ((1:Nat):Int))) (w.alloc (.cells #[.string o] 9))) (
   ⟨own,rfl,⟨m,left,L,b⟩,(Chg.alloc w _).mono fun _ _ h=>h.elim,zCf _ _⟩)
  have Q:=zh J;generalize r.f.data.length=M at *;clear h b J R G H q n aa ab ev;generalize s:w.alloc (.cells #[.string o] 9)=w0 at *
  by_cases ao:z<0
  rotate_left
  focus obtain⟨y,rfl⟩:∃y:Nat,z=(y:Int):=⟨z.toNat,by omega⟩;have ah:M<y:=by omega
  all_goals
   go_enter func156,ntmps156;go_wp2_with fail;refine Q.o.mono ?_;rintro e w' ⟨rfl,rfl⟩;clear s;go_wp2_with fail;go_ret;exact t.o
 ·rw[if_neg hb];obtain⟨y,rfl⟩:∃y:Nat,z=(y:Int):=⟨z.toNat,by omega⟩;rw[Int.toNat_natCast];have ae:y≤r.f.data.length:=by omega
  have A:zAk (w.alloc (.cells #[.string o] 9)) 5 (.slice pv y y) (r.f.data.take y):=Go.Sat.own_cut (by rw[←ev];exact n.row) ae;have E:own r.fb=some (2,nm o):=n.ob;have O:∀g,(Value.slice pv y y).ownBlock=some g→own g=some (3,nm o):=fun g C=>n.og g (by rw[ev,zCI pv _ _ y y];exact C);have P:zAk (((w.alloc (.cells #[.string o] 9)).setCell ⟨r.fb,0,none⟩ (.slice pv y y)).setCell ⟨r.fb,1,none⟩ (.int .i64 ((min r.f.lasts y:Nat):Int))) 5 (.slice pv y y) (r.f.data.take y):=zAk.keep A fun k N=>by
   have l:k≠r.fb:=fun e=>by
    have b:=O k N;rw[e,E]at b;simp at b
   exact(set_other _ l).trans (set_other _ l)
  obtain⟨own',h4,hx⟩:=b.upd H (f':=⟨r.f.data.take y,min r.f.lasts y⟩) (v':=.slice pv y y) (w':=((w.alloc (.cells #[.string o] 9)).setCell ⟨r.fb,0,none⟩ (.slice pv y y)).setCell ⟨r.fb,1,none⟩ (.int .i64 ((min r.f.lasts y:Nat):Int)))
   (by simp[World.setCell]) (fun k _ l _=>(set_other _ l).trans (set_other _ l)) (zAD (zAD n.cells 0 _) 1 _) P
   (fun g C=>.inl (by rw[ev,zCI pv _ _ y y];exact C)) (ok_trunc h.ok q y)
  have a:Chg (Has own) w (((w.alloc (.cells #[.string o] 9)).setCell ⟨r.fb,0,none⟩ (.slice pv y y)).setCell ⟨r.fb,1,none⟩ (.int .i64 ((min r.f.lasts y:Nat):Int))):=by
   have ho:Has own r.fb:=by unfold Has;rw[E];simp
   refine(((Chg.alloc w _).mono (T:=Has own) fun _ _ h=>h.elim).trans (Chg.setCell _ ⟨r.fb,0,none⟩ _) fun k _ e=>?_).trans (Chg.setCell _ ⟨r.fb,1,none⟩ _) fun k _ e=>?_
   ·rw[show k=r.fb from e];exact ho
   ·rw[show k=r.fb from e];exact ho
  have j:=zDM h4 G.1;have B:=zh j;have I:=zh a;have Hx:=zh hx;have U:=zh (Chg.alloc w (.cells #[.string o] 9)).size;have S:=zh (has_d b);have Q:=zh J;obtain⟨i0,hi,_⟩:=info_parts (show(prog.info? 5).map (fun i=>(i.zero,i.size,i.bytes))=some (some (.int .u8 0),1,1) by kernel_rfl);have am:∀W,(Instr.slice 22 (.slice pv r.f.data.length cv) none (some (.int .i64 (y:Int))) (some (.int .i64 (y:Int)))).run prog W=.ok (.slice pv y y) W:=fun W=>run_cut W underlying22 hi pv _ cv y (by omega);have ag:min (r.f.lasts:Int) (y:Int)=((min r.f.lasts y:Nat):Int):=by omega
  generalize X:r.f.data.length=M at *;generalize r.f.lasts=la at *;clear h b J R G H q n ev A E O P h4 hx a j X;generalize s:w.alloc (.cells #[.string o] 9)=w0 at *
  go_enter func156,ntmps156
  go_wp2_with fail;refine Q.o.mono ?_;rintro e w' ⟨rfl,rfl⟩;clear s;go_wp2_with fail;refine B.o.mono ?_;rintro e w5 ⟨rfl,K,Y⟩;go_wp2_with fail;go_ret;exact⟨own',rfl,K,I.o.trans Y fun i _ e=>by rw[e];exact S.o,fun k N=>Hx.o k (Nat.lt_of_lt_of_le N U.o)⟩
theorem trunc_calls (h:zCa w d D own)(o:ByteArray)(b:o.size≤9223372036854775807)(z:Int)(i:-9223372036854775808≤z)(f:z≤9223372036854775807) :
  Calls prog 156 #[.pointer (some ⟨d,0,none⟩),.string o,.int .i64 z] w (zDO w d own (D.truncate (nm o) z)):=by
 obtain⟨m,left,L,h⟩:=h;unfold zAA.truncate
 by_cases c:D.may [nm o]=0
 ·rw[if_neg (by simpa using c),h.get];cases g:Sat.get (nm o) L with
  | none=>exact trunc_none h o b z c g
  | some r=>exact trunc_some h o b z i f c g
 ·rw[if_pos (by simpa using c)];exact trunc_bad h o b z c
end
theorem st_trunc {w w1:World}{d:Nat}{D:zAA}{F:Nat→Prop}(h:St w w1 d D F)(s:ByteArray)(f:s.size≤9223372036854775807)(z:Int)(m:-9223372036854775808≤z)(g:z≤9223372036854775807) :
  Calls prog 156 #[.pointer (some ⟨d,0,none⟩),.string s,.int .i64 z] w1 (Told w d F w1 (D.truncate (nm s) z)):=by
 obtain⟨own,k,i,c,hF⟩:=h;refine(trunc_calls k s f z m g).mono ?_;rintro e w' ⟨own',rfl,b,j,l⟩;exact⟨rfl,St.step i c hF b j l⟩
end Go.Proofs.YtapfnehdgailmaaGreat
namespace Go.Sat
open Go.RowKit
def skipN (pre:Bs)(b:List Bs)(n:Bs):Bool:=!(pre.isPrefixOf n)||b.contains n
end Go.Sat
namespace Go.Proofs.YtapfnehdgailmaaGreat
open Go.RowKit Go.Sat Go.Maps
namespace zAA
def clearL (pre:Bs)(b:List Bs)(D:zAA):List Bs→zAA×Nat
 | []=>(D,0)
 | n::r=>if skipN pre b n then clearL pre b D r else if(D.remove [n]).2=0 then clearL pre b (D.remove [n]).1 r else D.remove [n]
def clear (D:zAA)(pre:Bs)(b:List Bs):zAA×Nat:=clearL pre b D (namesOf D)
end zAA
theorem enc_str (x:Bs):encStr x=.string ⟨x.toArray⟩:=rfl
theorem HasN.same {w w':World}{v:Value}{l:List Bs}(h:HasN w v l)(m:∀k,v.ownBlock=some k→w'.heap[k]?=w.heap[k]?):HasN w' v l:=by
 obtain⟨j,p,b,rfl,d,g⟩:=h;refine⟨j,p,b,rfl,d,fun a c i u n=>?_⟩;have f:(a.add i).block=a.block:=zDT _ _;exact(World.cell?_of_block (by rw[f];exact m _ (by rw[c];rfl))).trans (g a c i u n)
end Go.Proofs.YtapfnehdgailmaaGreat
namespace Go.Sat
theorem del_put {α:Type}{L:List (Bs×α)}(h:Srt L)(n:Bs)(a:α):del n (put n a L)=del n L:=by
 refine srt_ext (zCU (zBr h)) (zCU h) fun m=>?_
 by_cases e:m=n
 ·subst e;rw[zCX,zCX]
 ·rw[zCg (zBr h) e,zBP h a e,zCg h e]
theorem put_put {α:Type}{L:List (Bs×α)}(h:Srt L)(n:Bs)(a b:α):put n b (put n a L)=put n b L:=by
 show ins (n,b) (del n (put n a L))=ins (n,b) (del n L)
 rw[del_put h]
end Go.Sat
namespace Go.Proofs.YtapfnehdgailmaaGreat
open Go.RowKit Go.Sat Go.Maps
theorem zEE (n:Bs):(zAF n).length=n.length+1:=by simp[zAF]
def offF (f:Option Nat)(k:Nat):Option Nat:=f.map (·-k)
section
variable {D:zAA} {n l:Bs}
theorem save_app (_h:D.OK)(g:D.fuse≠some 0)(j:1≤n.length)(hn:n.length≤60)(c:Sat.get (zAF n) D.files=none)(f:D.used+l.length+12≤D.room)(k:D.files.length<4096) :
  D.append (zAF n) (zAK l)=(⟨D.room,put (zAF n) ⟨zAK l,0⟩ D.files,offF D.fuse 1⟩,0):=by
 have i:D.may [zAF n]=0:=by
  unfold zAA.may;rw[if_neg g,if_pos];simp only[List.all_cons,List.all_nil,Bool.and_true,okN,zEE];simp;omega
 have d:D.full (zAF n) (zAK l)=false:=by
  unfold zAA.full;rw[zAe,c];simp;omega
 unfold zAA.append;rw[if_neg (by rw[i];simp),if_neg (by rw[d];simp)];have b:D.cur (zAF n)=⟨[],0⟩:=by unfold zAA.cur;rw[c];rfl
 rw[b];rfl
theorem save_syn {room:Nat}{L:List (Bs×zAS)}{f:Option Nat}(h:Srt L)(c:f≠some 0)(i:1≤n.length)(hn:n.length≤60) :
  zAA.sync ⟨room,put (zAF n) ⟨zAK l,0⟩ L,f⟩ [zAF n]=(⟨room,put (zAF n) ⟨zAK l,(zAK l).length⟩ L,offF f 1⟩,0):=by
 have g:zAA.may ⟨room,put (zAF n) ⟨zAK l,0⟩ L,f⟩ [zAF n]=0:=by
  unfold zAA.may;rw[if_neg c,if_pos];simp only[List.all_cons,List.all_nil,Bool.and_true,okN,zEE];simp;omega
 have b:zAA.each1 zAA.gSync ⟨room,put (zAF n) ⟨zAK l,0⟩ L,f⟩ (zAF n)=(⟨room,put (zAF n) ⟨zAK l,(zAK l).length⟩ L,offF f 1⟩,0):=by
  unfold zAA.each1;rw[if_neg (by rw[g];simp)];have d:Sat.get (zAF n) (zAA.files ⟨room,put (zAF n) ⟨zAK l,0⟩ L,f⟩)=some ⟨zAK l,0⟩:=zBQ h _ _;rw[d]
  show((⟨room,put _ _ (put _ _ L),_⟩:zAA),0)=_
  rw[put_put h];rfl
 show(if(zAA.each1 _ _ _).2=0 then _ else _)=_
 rw[b,if_pos rfl];rfl
theorem save_ren {room:Nat}{L:List (Bs×zAS)}{f:Option Nat}{g:zAS}(h:Srt L)(c:f≠some 0)(j:1≤n.length)(hn:n.length≤60)(b:Sat.get (zAF n) L=none) :
  zAA.rename ⟨room,put (zAF n) g L,f⟩ (zAF n) n=(⟨room,put n g L,offF f 1⟩,0):=by
 have i:zAA.may ⟨room,put (zAF n) g L,f⟩ [zAF n,n]=0:=by
  unfold zAA.may;rw[if_neg c,if_pos];simp only[List.all_cons,List.all_nil,Bool.and_true,okN,zEE];simp;omega
 unfold zAA.rename;rw[if_neg (by rw[i];simp)];have d:Sat.get (zAF n) (zAA.files ⟨room,put (zAF n) g L,f⟩)=some g:=zBQ h _ _;rw[d]
 show((⟨room,put n g (del (zAF n) (put (zAF n) g L)),_⟩:zAA),0)=_
 rw[del_put h,zC1 b];rfl
theorem off_ne {f:Option Nat}{k:Nat}(b:∀j,f=some j→k<j):offF f k≠some 0:=by
 cases f with
 | none=>intro h;cases h
 | some j =>
  have:=b j rfl;intro h;have:=Option.some.inj (show some (j-k)=some 0 from h);omega
theorem off_off (f:Option Nat)(a b:Nat):offF (offF f a) b=offF f (a+b):=by
 cases f with
 | none=>rfl
 | some j=>exact congrArg some (Nat.sub_sub _ _ _)
theorem save_room (b:1≤n.length)(hn:n.length≤60):D.save n l=D.save1 n (zAK l):=by
 unfold zAA.save;rw[if_neg (by omega)]
theorem save_all (h:D.OK)(f:∀j,D.fuse=some j→3≤j)(b:1≤n.length)(hn:n.length≤60)(d:Sat.get (zAF n) D.files=none)(c:D.used+l.length+12≤D.room)(i:D.files.length<4096) :
  D.save n l=(⟨D.room,put n ⟨zAK l,(zAK l).length⟩ D.files,offF D.fuse 3⟩,0):=by
 have g:D.save0 n=(D,0):=by unfold zAA.save0;rw[d];rfl
 have k:D.fuse≠some 0:=fun e=>by have:=f 0 e;omega
 rw[save_room b hn,save1_ren g (save_app h k b hn d c i) (save_syn h.srt (off_ne fun j e=>by have:=f j e;omega) b hn),off_off,
  save_ren h.srt (off_ne fun j e=>by have:=f j e;omega) b hn d,off_off]
end
theorem zBH (w:World)(e:TypeId):OwnR (w.alloc (.cells #[] e)) e 1 (.slice (some ⟨w.heap.size,0,none⟩) 0 0) 0 [] :=
 ⟨rfl,.inr ⟨_,0,#[],rfl,zAJ w _,Nat.le_refl _,Nat.zero_le _,Nat.le_refl _,rfl⟩⟩
theorem stays_whole (b:Bs)(k:Int):zAA.stays ⟨b,b.length⟩ k=b.length:=by
 show b.length+(max 0 k).toNat%(b.length-b.length+1)=b.length
 rw[Nat.sub_self,Nat.zero_add,Nat.mod_one,Nat.add_zero]
theorem zFh (b:Bs)(k:Int):zAA.crashF k ⟨b,b.length⟩=⟨b,b.length⟩:=by
 show(⟨b.take (zAA.stays ⟨b,b.length⟩ k),zAA.stays ⟨b,b.length⟩ k⟩:zAS)=_
 rw[stays_whole,List.take_length]
theorem get_crash (D:zAA)(n:Bs)(k:Int):Sat.get n (D.crash k).files=(Sat.get n D.files).map (zAA.crashF k):=zGL _ _ _
theorem get_crash_whole {D:zAA}{n b:Bs}(h:Sat.get n D.files=some ⟨b,b.length⟩)(k:Int):Sat.get n (D.crash k).files=some ⟨b,b.length⟩:=by
 rw[get_crash,h,Option.map_some,zFh]
theorem load_frame (l:Bs)(h:l.length≤1048576)(k:Nat):loadE (some ⟨zAK l,k⟩)=0∧zEX (some ⟨zAK l,k⟩)=l:=by
 have e:zDC (some ⟨zAK l,k⟩)=zAK l:=rfl;rw[loadE_some,zFR,e,frame_oneE l h,frame_oneB l h];exact⟨if_pos rfl,rfl⟩
/-! ### A ledger in memory -/
structure zDE (w:World)(l d:Nat)(pre:ByteArray)(own:Nat→Prop)(M:LedM)(dv ev:Value)(vs:List Value):Prop where
 cells:w.heap[l]?=some (.cells #[.pointer (some ⟨d,0,none⟩),.string pre,.int .i64 (M.base:Int),dv,ev,.bool M.dead] 183 (0,0))
 data:zAk w 5 dv M.data
 row:OwnR w 22 1 ev M.entries.length vs
 rows:∀(i:Nat) u b,vs[i]?=some u→M.entries[i]?=some b→zAk w 5 u b
 ol:own l
 od:∀k,dv.ownBlock=some k→own k∧k≠l∧ev.ownBlock≠some k
 oe:∀k,ev.ownBlock=some k→own k∧k≠l
 ov:∀u∈vs,∀k,u.ownBlock=some k→own k∧k≠l∧ev.ownBlock≠some k
 olt:∀k,own k→k<w.heap.size
 last:M.last≤1099511627776
 psz:1≤pre.size∧pre.size≤20
 big:M.data.length≤1073741824∧∀b∈M.entries,b.length≤1073741824
section
variable {w w':World} {l d:Nat} {pre:ByteArray} {own:Nat→Prop} {M:LedM} {dv ev:Value} {vs:List Value}
theorem zDE.len (h:zDE w l d pre own M dv ev vs):vs.length=M.entries.length:=by have:=h.row.1;omega
theorem zDE.keep (h:zDE w l d pre own M dv ev vs)(f:∀k,own k→w'.heap[k]?=w.heap[k]?)(m:∀k,own k→k<w'.heap.size):zDE w' l d pre own M dv ev vs where
 cells:=(f l h.ol).trans h.cells
 data:=OwnR.keep h.data fun k c=>f k (h.od k c).1
 row:=h.row.keep fun k c=>f k (h.oe k c).1
 rows:=fun i u b g j=>OwnR.keep (h.rows i u b g j) fun k c=>f k (h.ov u (List.mem_of_getElem? g) k c).1
 ol:=h.ol
 od:=h.od
 oe:=h.oe
 ov:=h.ov
 olt:=m
 last:=h.last
 psz:=h.psz
 big:=h.big
theorem zDE.below (h:zDE w l d pre own M dv ev vs)(c:Below w.heap.size w w'):zDE w' l d pre own M dv ev vs :=
 h.keep (fun k b=>c.block k (h.olt k b)) fun k b=>Nat.lt_of_lt_of_le (h.olt k b) c.size
theorem zDE.c0 (h:zDE w l d pre own M dv ev vs):w.cell? ⟨l,0,none⟩=some (.pointer (some ⟨d,0,none⟩)):=zAG h.cells rfl
theorem zDE.c1 (h:zDE w l d pre own M dv ev vs):w.cell? ⟨l,1,none⟩=some (.string pre):=zAG h.cells rfl
theorem zDE.c2 (h:zDE w l d pre own M dv ev vs):w.cell? ⟨l,2,none⟩=some (.int .i64 (M.base:Int)):=zAG h.cells rfl
theorem zDE.c3 (h:zDE w l d pre own M dv ev vs):w.cell? ⟨l,3,none⟩=some dv:=zAG h.cells rfl
theorem zDE.c4 (h:zDE w l d pre own M dv ev vs):w.cell? ⟨l,4,none⟩=some ev:=zAG h.cells rfl
theorem zDE.c5 (h:zDE w l d pre own M dv ev vs):w.cell? ⟨l,5,none⟩=some (.bool M.dead):=zAG h.cells rfl
theorem zDE.fr (h:zDE w l d pre own M dv ev vs)(i:Nat):w.frozen? ⟨l,i,none⟩=false:=zAE h.cells i
def LedCells (l d:Nat)(pre:ByteArray)(w:World):Prop:=w.cell? ⟨l,0,none⟩=some (.pointer (some ⟨d,0,none⟩))∧w.cell? ⟨l,1,none⟩=some (.string pre)∧pre.size≤20
end
def zCS (s:ByteArray):ByteArray:=s++⟨#[45,108,111,103]⟩
def zBV (s:ByteArray):ByteArray:=s++⟨#[126]⟩
theorem zBy (s:ByteArray):nm (zCS s)=zAm (nm s):=by simp[nm,zCS,zAm,logX]
theorem zEi (s:ByteArray):nm (zBV s)=zAF (nm s):=zBG s
theorem zFY (s:ByteArray):(zCS s).size=s.size+4:=by simp[zCS,ByteArray.size_append];rfl
theorem zCP (s:ByteArray):(zBV s).size=s.size+1:=by simp[zBV,ByteArray.size_append];rfl
section
variable {w w1:World} {l d:Nat} {pre:ByteArray} {D:zAA} {F:Nat→Prop}
end
def zFF (w w1:World)(l d:Nat)(pre:ByteArray)(D:zAA)(M:LedM)(F:Nat→Prop):Prop :=
 ∃own dv ev vs,zDE w1 l d pre own M dv ev vs∧St w w1 d D (fun k=>own k∨F k)∧(∀k,own k→w.heap.size≤k∧¬F k)∧∀k,F k→k<w1.heap.size
theorem zBX {w:World}{a:Addr}{v:Value}(h:w.cell? a=some v)(o:Obj):(w.alloc o).cell? a=some v:=(((Below.refl w.heap.size w).alloc (Nat.le_refl _) o).cell (World.block_lt_of_cell? w _ h)).trans h
theorem zCM {w w':World}{e:TypeId}{v:Value}{b:Bs}(h:zAk w e v b)(c:Below w.heap.size w w'):zAk w' e v b:=OwnR.keep h fun k d=>c.block k (OwnR.lt h d)
theorem zAU (w:World):Below w.heap.size w w.drew:=⟨rfl,rfl,rfl,Nat.le_refl _,fun _ _=>rfl⟩
theorem zAC (w:World)(o:Obj):Below w.heap.size w (w.alloc o):=(Below.refl _ _).alloc (Nat.le_refl _) o
section
variable {w w1 w2:World} {l d:Nat} {pre:ByteArray} {D:zAA} {M:LedM} {F F':Nat→Prop}
theorem zFF.bel (h:zFF w w1 l d pre D M F):Below w.heap.size w w1:=let ⟨_,_,_,_,_,hS,_,_⟩:=h;hS.below
theorem zFF.okD (h:zFF w w1 l d pre D M F):D.OK:=let ⟨_,_,_,_,_,hS,_,_⟩:=h;hS.ok
theorem zFF.flt (h:zFF w w1 l d pre D M F){k:Nat}(b:F k):k<w1.heap.size:=let ⟨_,_,_,_,_,_,_,hF⟩:=h;hF k b
theorem zFF.st (h:zFF w w1 l d pre D M F):St w w1 d D NoF:=let ⟨_,_,_,_,_,hS,_,_⟩:=h;hS.noF
theorem zFF.last (h:zFF w w1 l d pre D M F):M.last≤1099511627776:=let ⟨_,_,_,_,hL,_,_,_⟩:=h;hL.last
theorem zFF.psz (h:zFF w w1 l d pre D M F):1≤pre.size∧pre.size≤20:=let ⟨_,_,_,_,hL,_,_,_⟩:=h;hL.psz
theorem zFF.cells (h:zFF w w1 l d pre D M F):∃dv ev,w1.heap[l]?=some (.cells #[.pointer (some ⟨d,0,none⟩),.string pre,.int .i64 (M.base:Int),dv,ev,.bool M.dead] 183 (0,0))∧zAk w1 5 dv M.data∧∃vs,OwnR w1 22 1 ev M.entries.length vs∧∀(i:Nat) u b,vs[i]?=some u→M.entries[i]?=some b→zAk w1 5 u b :=
 let ⟨_,dv,ev,vs,hL,_,_,_⟩:=h;⟨dv,ev,hL.cells,hL.data,vs,hL.row,hL.rows⟩
theorem zFF.move {S:Nat→Prop}(h:zFF w w1 l d pre D M F)(f:Chg S w1 w2)(hS:∀k,k<w1.heap.size→S k→F k∧w.heap.size≤k)(hF:∀k,F' k→(F k∨w1.heap.size≤k)∧k<w2.heap.size):zFF w w2 l d pre D M F':=by
 obtain⟨own,dv,ev,vs,c,i,hn,m⟩:=h;refine⟨own,dv,ev,vs,c.keep (fun k b=>f.block k (c.olt k b) fun g=>(hn k b).2 (hS k (c.olt k b) g).1) fun k b=>Nat.lt_of_lt_of_le (c.olt k b) f.size,i.move f (fun k b g=>⟨.inr (hS k b g).1,(hS k b g).2⟩) (fun k b=>?_),fun k b=>⟨(hn k b).1,fun j=>?_⟩,fun k b=>(hF k b).2⟩
 ·rcases b with b|b
  ·exact⟨.inl (.inl b),Nat.lt_of_lt_of_le (c.olt k b) f.size⟩
  ·exact⟨(hF k b).1.imp .inr id,(hF k b).2⟩
 ·rcases(hF k j).1 with h|h
  ·exact(hn k b).2 h
  ·have:=c.olt k b;omega
theorem zFF.next (h:zFF w w1 l d pre D M F)(b:Below w1.heap.size w1 w2):zFF w w2 l d pre D M F :=
 h.move (Chg.of_below b) (fun _ _ h=>h.elim) fun _ c=>⟨.inl c,Nat.lt_of_lt_of_le (h.flt c) b.size⟩
theorem zFF.same (h:zFF w w1 l d pre D M F)(b:Below w1.heap.size w1 w2):Same F w1 w2:=fun _ c=>b.block _ (h.flt c)
theorem zFF.less (h:zFF w w1 l d pre D M F)(hF:∀k,F' k→F k):zFF w w1 l d pre D M F' :=
 h.move (Chg.refl _ _:Chg (fun _=>False) w1 w1) (fun _ _ h=>h.elim) fun _ b=>⟨.inl (hF _ b),h.flt (hF _ b)⟩
theorem zFF.more (h:zFF w w1 l d pre D M F)(c:Below w1.heap.size w1 w2)(hF:∀k,F' k→F k∨w1.heap.size≤k∧k<w2.heap.size):zFF w w2 l d pre D M F' :=
 h.move (Chg.of_below c) (fun _ _ h=>h.elim) fun k f=>by
  rcases hF k f with b|b
  ·exact⟨.inl b,Nat.lt_of_lt_of_le (h.flt b) c.size⟩
  ·exact⟨.inr b.1,b.2⟩
theorem zFF.box (h:zFF w w1 l d pre D M F)(o:Obj):zFF w (w1.alloc o) l d pre D M (fun k=>F k∨k=w1.heap.size) :=
 h.more (zAC w1 o) fun k b=>b.imp id fun e=>⟨by omega,by simp;omega⟩
theorem zFF.turned {own own':Nat→Prop}{M':LedM}{dv' ev':Value}{vs':List Value}(hS:St w w1 d D (fun k=>own k∨F k))(hn:∀k,own k→w.heap.size≤k∧¬F k)(g:∀k,F k→k<w1.heap.size)
  (c:zDE w2 l d pre own' M' dv' ev' vs') (f:Chg own w1 w2) (i:∀k,own' k→own k∨w1.heap.size≤k):zFF w w2 l d pre D M' F∧Same F w1 w2:=by
 refine⟨⟨own',dv',ev',vs',c,hS.move f (fun k _ b=>⟨.inl b,(hn k b).1⟩) (fun k b=>?_),fun k b=>?_,fun k b=>Nat.lt_of_lt_of_le (g k b) f.size⟩,fun k b=>f.block k (g k b) fun m=>(hn k m).2 b⟩
 ·rcases b with b|b
  ·exact⟨(i k b).imp .inl id,c.olt k b⟩
  ·exact⟨.inl (.inr b),Nat.lt_of_lt_of_le (g k b) f.size⟩
 ·rcases i k b with h|h
  ·exact hn k h
  ·exact⟨Nat.le_trans hS.below.size h,fun j=>by have:=g k j;omega⟩
end
theorem LedCells.same {l d:Nat}{pre:ByteArray}{w w':World}(h:LedCells l d pre w)(b:w'.heap[l]?=w.heap[l]?):LedCells l d pre w' :=
 ⟨(World.cell?_of_block (a:=⟨l,0,none⟩) b).trans h.1,(World.cell?_of_block (a:=⟨l,1,none⟩) b).trans h.2.1,h.2.2⟩
section
variable {w w1:World} {l d:Nat} {pre:ByteArray} {D:zAA} {M:LedM} {F:Nat→Prop}
theorem last_calls (h:zFF w w1 l d pre D M F) :
  Calls prog 126 #[.pointer (some ⟨l,0,none⟩)] w1 fun e w'=>e=.returned (.int .i64 (M.last:Int))∧∃q,w'=w1.drewN q:=by
 have g:=h.last;obtain⟨dv,ev,i,-,vs,f,-⟩:=h.cells;obtain⟨p,c,rfl⟩:=f.shape;have k:w1.cell? ⟨l,2,none⟩=some (.int .i64 (M.base:Int)):=zAG i rfl;have m:w1.cell? ⟨l,4,none⟩=some (.slice p M.entries.length c):=zAG i rfl;have j:=zW (((M.base:Int)+(M.entries.length:Int))=(M.last:Int)) (by unfold LedM.last;omega);have r:M.base≤1099511627776:=by unfold LedM.last at g;omega
 have s:M.entries.length≤1099511627776:=by unfold LedM.last at g;omega
 clear h i f g;generalize M.entries.length=n at *;generalize M.base=b at *
 go_enter func126,ntmps126
 have t:IntKind.i64.wrap ((b:Int)+(n:Int))=(b:Int)+(n:Int):=IntWalk.i64_in _ (by omega);go_wp2_with fail
 go_quiet (fail)
 go_wp2_with fail;go_ret;exact⟨by rw[j.o];rfl,_,rfl⟩
end
end Go.Proofs.YtapfnehdgailmaaGreat
namespace Go.Sat
namespace Rd
def ints:Nat→Rd→List Int×Rd
 | 0,R=>([],R)
 | k+1,R=>((R.num.1:Int)::(ints k R.num.2).1,(ints k R.num.2).2)
def grp (may:List Int→Bool)(R:Rd):List Int×Rd :=
 if 7<R.num.1 then([],fail)else((ints R.num.1 R.num.2).1,if may (ints R.num.1 R.num.2).1 then(ints R.num.1 R.num.2).2 else fail)
end Rd
def anyG (_:List Int):Bool:=true
end Go.Sat
namespace Go.Proofs.YtapfnehdgailmaaGreat
open Go.RowKit Go.Sat Go.Maps
structure Ent where
 term:Int
 kind:Int
 data:Bs
 nodes:List Int
structure zAH where
 number:Nat
 term:Int
 group:List Int
 now:Int
 vote:Int
 data:Bs
 entries:List Ent
 dead:Bool
def zFi (b:Int):List Int→Bool
 | []=>true
 | n::r=>decide (b<n∧n<7)&&zFi n r
def zAX (l:List Int):Bool:=zFi (-1) l&&decide (1≤l.length∧l.length≤7)
def zDG (n:Int):Bool:=decide (0≤n∧n≤1099511627776)
def zAt (e:Ent):Bool :=
 zDG e.term&&(if e.kind=0 then decide (e.data=[]∧e.nodes=[])else if e.kind=1 then decide (1≤e.data.length∧e.data.length≤65536∧e.nodes=[])
  else if e.kind=2 then decide (e.data=[])&&zAX e.nodes else false)
def snpX:Bs:=[45,115,110,97,112]
def zBR (p:Bs):Bs:=p++snpX
/-! ### Records -/
def zDq (l:List Int):Bs:=zD8 l.length++zAp l
def zEo (n:Nat)(t:Int)(g:List Int):Bs:=1::(zD8 n++zDf t++zDq g)
def zCV (t v:Int):Bs:=2::(zDf t++zDf (v+1))
def zEt (n:Nat)(e:Ent):Bs:=3::(zD8 n++zDf e.term++zDf e.kind++zE5 e.data++zDq e.nodes)
def cutB (n:Nat):Bs:=4::zD8 n
def zEj (n:Nat)(t:Int)(g:List Int)(b:Bs):Bs:=zD8 n++zDf t++zDq g++zE5 b
def zAx:Nat→List Ent→List Bs
 | _,[]=>[]
 | n,e::r=>zEt (n+1) e::zAx (n+1) r
namespace zAH
def none0 (g:List Int):zAH:=⟨0,0,g,0,-1,[],[],false⟩
def last (M:zAH):Nat:=M.number+M.entries.length
def die (M:zAH):zAH:={M with dead:=true}
def termAt (M:zAH)(i:Int):Option Int :=
 if i=(M.number:Int)then some M.term else if i<(M.number:Int)then none else(M.entries[(i-M.number-1).toNat]?).map Ent.term
def lastT (M:zAH):Int:=match M.entries.getLast? with
 | some e=>e.term
 | none=>M.term
def mayVote (M:zAH)(t v:Int):Bool:=decide (M.now≤t∧t≤1099511627776∧-1≤v∧v<7)&& !decide (t=M.now∧M.vote≠-1∧v≠M.vote)
def grpIn (M:zAH):Nat→List Int×Nat
 | 0=>(M.group,M.number)
 | k+1=>match M.entries[k]? with
  | some e=>if e.kind=2 then(e.nodes,M.number+k+1)else grpIn M k
  | none=>grpIn M k
def rows (M:zAH):List Bs:=zEo M.number M.term M.group::zCV M.now M.vote::zAx M.number M.entries
end zAH
def zBe (first:Bool)(M:zAH)(p:Bs):Option zAH:=match p with
 | []=>none
 | k::r =>
  if first≠decide (k=1)then none
  else if k=1 then
   (if(Rd.num ⟨r,false⟩).2.num.2.grp zAX |>.2.whole then
    if(Rd.num ⟨r,false⟩).1≤1099511627776∧(Rd.num ⟨r,false⟩).2.num.1≤1099511627776 then
     some {M with number:=(Rd.num ⟨r,false⟩).1,term:=((Rd.num ⟨r,false⟩).2.num.1:Int),group:=((Rd.num ⟨r,false⟩).2.num.2.grp zAX).1}else none
   else none)
  else if k=2 then
   (if(Rd.num ⟨r,false⟩).2.num.2.whole&&M.mayVote ((Rd.num ⟨r,false⟩).1:Int) (((Rd.num ⟨r,false⟩).2.num.1:Int)-1)then
    some {M with now:=((Rd.num ⟨r,false⟩).1:Int),vote:=(((Rd.num ⟨r,false⟩).2.num.1:Int)-1) }else none)
  else if k=3 then
   (let R1:=Rd.num ⟨r,false⟩
    let R2:=R1.2.num
    let R3:=R2.2.num
    let R4:=R3.2.bytes
    let R5:=R4.2.grp anyG
    let e:Ent:=⟨R2.1,R3.1,R4.1,R5.1⟩
    if R5.2.whole∧R1.1=M.last+1∧R1.1≤1099511627776∧zAt e then some {M with entries:=M.entries++[e] }else none)
  else if k=4 then
   (if(Rd.num ⟨r,false⟩).2.whole∧M.number<(Rd.num ⟨r,false⟩).1∧(Rd.num ⟨r,false⟩).1≤M.last+1 then some {M with entries:=M.entries.take ((Rd.num ⟨r,false⟩).1-M.number-1) }else none)
  else none
def zBU (M:zAH):List Bs→Option zAH
 | []=>some M
 | p::r=>(zBe false M p).bind fun M'=>zBU M' r
def zCC (M:zAH):List Bs→Option zAH
 | []=>none
 | p::r=>(zBe true M p).bind fun M'=>zBU M' r
structure zC8 where
 number:Nat
 term:Int
 group:List Int
 data:Bs
def zDD (b:Bs):Option zC8 :=
 let R1:=Rd.num ⟨b,false⟩
 let R2:=R1.2.num
 let R3:=R2.2.grp zAX
 let R4:=R3.2.bytes
 if R4.2.whole∧1≤R1.1∧R1.1≤1099511627776∧R2.1≤1099511627776∧R4.1.length≤524288 then some ⟨R1.1,R2.1,R3.1,R4.1⟩else none
def zCD (o:Option zAS):Nat×Option zC8 :=
 if loadE o=7 then(0,none)else if loadE o≠0 then(loadE o,none)else match zDD (zEX o)with
  | none=>(3,none)
  | some s=>(0,some s)
def zAH.rebase (M:zAH)(s:zC8):zAH :=
 {M with number:=s.number,term:=s.term,group:=s.group,data:=s.data,entries:=if M.number<s.number∧M.termAt s.number=some s.term then M.entries.drop (s.number-M.number)else [] }
def zAT (D:zAA)(pre:Bs)(M:zAH):zAA×Nat:=D.save1 (zAm pre) (zAL M.rows)
def zBj (D:zAA)(pre:Bs)(M:zAH):zAA×Nat×Bool×zAH:=match get (zAm pre) D.files with
 | none=>(D,0,true,M)
 | some f=>match zCC M (zDv f.data).1 with
  | none=>(D,3,false,M)
  | some M'=>((tornOff D (zAm pre) (zDv f.data).2 f.data.length).1,(tornOff D (zAm pre) (zDv f.data).2 f.data.length).2,false,M')
def zAh (s:Option zC8)(M:zAH)(b:Bool):Option (Bool×zAH):=match s with
 | none=>if 0<M.number then none else some (b,M)
 | some s=>if M.number<s.number then some (true,M.rebase s)else if s.number<M.number then none else some (b,{M with data:=s.data})
def zAV (D:zAA)(pre:Bs)(nodes:List Int):zAA×Nat×zAH :=
 if pre.length<1∨20<pre.length∨zAX nodes=false then(D,1,zAH.none0 nodes)else
 let r0:=D.rid [zAF (zAm pre),zAF (zBR pre)]
 if r0.2≠0 then(r0.1,r0.2,zAH.none0 nodes)else
 let s:=zCD (get (zBR pre) r0.1.files)
 if s.1≠0 then(r0.1,s.1,zAH.none0 nodes)else
 let l:=zBj r0.1 pre (zAH.none0 nodes)
 if l.2.1≠0 then(l.1,l.2.1,zAH.none0 nodes)else
 match zAh s.2 l.2.2.2 l.2.2.1 with
 | none=>(l.1,3,zAH.none0 nodes)
 | some (anew,M)=>if anew then((zAT l.1 pre M).1,(zAT l.1 pre M).2,M)else(l.1,0,M)
structure zDS where
 disk:zAA
 jou:zAH
 err:Nat
def zBw (pre:Bs)(D:zAA)(M:zAH)(rows:List Bs)(M':zAH):zDS :=
 if(layOn D (zAm pre) (zAL rows)).2≠0 then⟨(layOn D (zAm pre) (zAL rows)).1,M.die,(layOn D (zAm pre) (zAL rows)).2⟩else⟨(layOn D (zAm pre) (zAL rows)).1,M',0⟩
def zA2 (pre:Bs)(D:zAA)(M:zAH)(t v:Int):zDS :=
 if M.dead then⟨D,M,9⟩else if M.mayVote t v=false then⟨D,M,1⟩else if t=M.now∧v=M.vote then⟨D,M,0⟩
 else zBw pre D M [zCV t v] {M with now:=t,vote:=v}
def zAZ (pre:Bs)(D:zAA)(M:zAH)(l:List Ent):zDS :=
 if M.dead then⟨D,M,9⟩else if 1099511627776<M.last+l.length∨l.all zAt=false then⟨D,M,1⟩else if l=[]then⟨D,M,0⟩
 else zBw pre D M (zAx M.last l) {M with entries:=M.entries++l}
def zBW (pre:Bs)(D:zAA)(M:zAH)(i:Int):zDS :=
 if M.dead then⟨D,M,9⟩else if i≤(M.number:Int)then⟨D,M,1⟩else if(M.last:Int)<i then⟨D,M,0⟩
 else zBw pre D M [cutB i.toNat] {M with entries:=M.entries.take (i.toNat-M.number-1) }
def zA0 (pre:Bs)(D:zAA)(M:zAH)(s:zC8):zDS :=
 if(D.save (zBR pre) (zEj s.number s.term s.group s.data)).2≠0 then⟨(D.save (zBR pre) (zEj s.number s.term s.group s.data)).1,M.die,(D.save (zBR pre) (zEj s.number s.term s.group s.data)).2⟩
 else if(zAT (D.save (zBR pre) (zEj s.number s.term s.group s.data)).1 pre (M.rebase s)).2≠0 then⟨(zAT (D.save (zBR pre) (zEj s.number s.term s.group s.data)).1 pre (M.rebase s)).1,(M.rebase s).die,(zAT (D.save (zBR pre) (zEj s.number s.term s.group s.data)).1 pre (M.rebase s)).2⟩
 else⟨(zAT (D.save (zBR pre) (zEj s.number s.term s.group s.data)).1 pre (M.rebase s)).1,M.rebase s,0⟩
def zAW (pre:Bs)(D:zAA)(M:zAH)(i:Int)(b:Bs):zDS :=
 if M.dead then⟨D,M,9⟩else if i≤(M.number:Int)∨(M.last:Int)<i∨524288<b.length then⟨D,M,1⟩
 else zA0 pre D M ⟨i.toNat,(M.termAt i).getD 0,(M.grpIn (i.toNat-M.number)).1,b⟩
def zAa (pre:Bs)(D:zAA)(M:zAH)(i t:Int)(g:List Int)(b:Bs):zDS :=
 if M.dead then⟨D,M,9⟩else if i≤(M.number:Int)∨1099511627776<i∨zDG t=false∨zAX g=false∨524288<b.length then⟨D,M,1⟩
 else zA0 pre D M ⟨i.toNat,t,g,b⟩
end Go.Proofs.YtapfnehdgailmaaGreat
namespace Go.Proofs.YtapfnehdgailmaaGreat
open Go.RowKit Go.Sat Go.Maps
theorem numI_of {z:Int}(b:0≤z)(c:z≤4611686018427387904):zDf z=zD8 z.toNat:=by
 have:=zB8 (n:=z.toNat) (by omega);rwa[Int.toNat_of_nonneg b]at this
theorem rd_int {z:Int}(c:0≤z)(d:z≤4611686018427387904)(r:Bs)(b:Bool):Rd.num ⟨zDf z++r,b⟩=(z.toNat,⟨r,b⟩):=by
 rw[numI_of c d];exact Rd.num_of (by omega) r b
theorem ints_of:∀(l:List Int) (r:Bs) (b:Bool),(∀x∈l,0≤x∧x≤4611686018427387904)→Rd.ints l.length ⟨zAp l++r,b⟩=(l,⟨r,b⟩)
 | [],_,_,_=>rfl
 | z::l,r,b,h=>by
  have c:=h z (by simp);have d:zAp (z::l)++r=zDf z++(zAp l++r):=by simp[zAp]
  show(((Rd.num _).1:Int)::(Rd.ints l.length (Rd.num _).2).1,(Rd.ints l.length (Rd.num _).2).2)=_
  rw[d,rd_int c.1 c.2];dsimp only;rw[ints_of l r b fun x f=>h x (by simp[f]),Int.toNat_of_nonneg c.1]
theorem grp_of {may:List Int→Bool}{l:List Int}(f:l.length≤7)(h:∀x∈l,0≤x∧x<7)(c:may l=true)(r:Bs)(b:Bool):Rd.grp may ⟨zDq l++r,b⟩=(l,⟨r,b⟩):=by
 unfold Rd.grp zDq;rw[List.append_assoc,Rd.num_of (by omega)];dsimp only;rw[if_neg (by omega),ints_of l r b fun x d=>by have:=h x d;omega];dsimp only;rw[if_pos c]
theorem zGi (b:Bool):Rd.whole ⟨[],b⟩=!b:=by
 unfold Rd.whole;simp
theorem zCi {l:List Int}(h:zAX l=true):l.length≤7∧∀x∈l,0≤x∧x<7:=by
 unfold zAX at h;simp only[Bool.and_eq_true,decide_eq_true_eq]at h;refine⟨h.2.2,?_⟩;have d:∀(l:List Int) (p:Int),-1≤p→zFi p l=true→∀x∈l,p<x∧x<7:=by
  intro l
  induction l with
  | nil=>intro p _ _ x b;cases b
  | cons n r ih =>
   intro p f c x b;unfold zFi at c;simp only[Bool.and_eq_true,decide_eq_true_eq]at c;cases b with
   | head=>exact c.1
   | tail _ b =>
    have:=ih n (by omega) c.2 x b;omega
 intro x b;have:=d l (-1) (by omega) h.1 x b;omega
theorem rec_fst {M:zAH}{n:Nat}{t:Int}{g:List Int}(hn:n≤1099511627776)(d:0≤t∧t≤1099511627776)(c:zAX g=true) :
  zBe true M (zEo n t g)=some {M with number:=n,term:=t,group:=g}:=by
 have b:=zCi c;unfold zBe zEo;dsimp only;rw[if_neg (by decide),if_pos rfl,List.append_assoc,Rd.num_of (by omega)];dsimp only;rw[rd_int d.1 (by omega)];dsimp only;have:=grp_of (may:=zAX) b.1 b.2 c [] false;rw[List.append_nil]at this;rw[this];dsimp only;rw[zGi,if_pos (show(!false)=true from rfl),if_pos (by omega),Int.toNat_of_nonneg d.1]
theorem rec_trm {M:zAH}{t v:Int}(h:M.mayVote t v=true)(c:0≤M.now):zBe false M (zCV t v)=some {M with now:=t,vote:=v}:=by
 have b:=h;unfold zAH.mayVote at b;simp only[Bool.and_eq_true,decide_eq_true_eq]at b;have d:=b.1;unfold zBe zCV;dsimp only;rw[if_neg (by decide),if_neg (by decide),if_pos rfl,rd_int (by omega) (by omega)];dsimp only;have e:=rd_int (z:=v+1) (by omega) (by omega) [] false;rw[List.append_nil]at e;rw[e];dsimp only;rw[zGi,Int.toNat_of_nonneg (by omega),Int.toNat_of_nonneg (by omega),show v+1-1=v by omega,h,if_pos (show(!false&&true)=true from rfl)]
theorem zBN {e:Ent}(h:zAt e=true):(0≤e.term∧e.term≤1099511627776)∧(0≤e.kind∧e.kind≤2)∧e.data.length≤65536∧e.nodes.length≤7∧∀x∈e.nodes,0≤x∧x<7:=by
 unfold zAt at h;simp only[Bool.and_eq_true]at h;have c:=h.1;unfold zDG at c;simp only[decide_eq_true_eq]at c;refine⟨c,?_⟩;have b:=h.2
 split at b
 ·rename_i hk
  simp only[decide_eq_true_eq]at b;rw[b.1,b.2,hk];exact⟨by decide,by decide,by decide,fun x d=>by cases d⟩
 ·split at b
  ·rename_i hk
   simp only[decide_eq_true_eq]at b;rw[b.2.2,hk];exact⟨by decide,b.2.1,by decide,fun x d=>by cases d⟩
  ·split at b
   ·rename_i hk
    simp only[Bool.and_eq_true,decide_eq_true_eq]at b;rw[b.1,hk];exact⟨by decide,by decide,(zCi b.2).1,(zCi b.2).2⟩
   ·cases b
theorem rec_ent {M:zAH}{e:Ent}(h:zAt e=true)(f:M.last+1≤1099511627776):zBe false M (zEt (M.last+1) e)=some {M with entries:=M.entries++[e] }:=by
 obtain⟨d,c,i,hn,g⟩:=zBN h;unfold zBe zEt;dsimp only;rw[if_neg (by decide),if_neg (by decide),if_neg (by decide),if_pos rfl];simp only[List.append_assoc];rw[Rd.num_of (by omega)];dsimp only;rw[rd_int d.1 (by omega)];dsimp only;rw[rd_int c.1 (by omega)];dsimp only;rw[Rd.bytes_of (by omega)];dsimp only;have b:=grp_of (may:=anyG) hn g rfl [] false;rw[List.append_nil]at b;rw[b];dsimp only;rw[zGi,Int.toNat_of_nonneg d.1,Int.toNat_of_nonneg c.1];rw[if_pos ⟨rfl,rfl,f,h⟩]
theorem rec_cut {M:zAH}{i:Nat}(c:M.number<i)(d:i≤M.last+1)(f:i≤1099511627777):zBe false M (cutB i)=some {M with entries:=M.entries.take (i-M.number-1) }:=by
 unfold zBe cutB;dsimp only;rw[if_neg (by decide),if_neg (by decide),if_neg (by decide),if_neg (by decide),if_pos rfl];have b:=Rd.num_of (n:=i) (by omega) [] false;rw[List.append_nil]at b;rw[b];dsimp only;rw[zGi,if_pos ⟨rfl,c,d⟩]
theorem recGo_app:∀(a b:List Bs) (M:zAH),zBU M (a++b)=(zBU M a).bind fun M'=>zBU M' b
 | [],_,_=>rfl
 | p::a,b,M=>by
  show((zBe false M p).bind fun M'=>zBU M' (a++b))=((zBe false M p).bind fun M'=>zBU M' a).bind fun M'=>zBU M' b
  cases zBe false M p with
  | none=>rfl
  | some M'=>exact recGo_app a b M'
theorem recAll_app {M M':zAH}{a b:List Bs}(h:zCC M a=some M'):zCC M (a++b)=zBU M' b:=by
 cases a with
 | nil=>cases h
 | cons p r =>
  have c:((zBe true M p).bind fun M'=>zBU M' r)=some M':=h
  show((zBe true M p).bind fun M'=>zBU M' (r++b))=_
  cases d:zBe true M p with
  | none=>rw[d]at c;cases c
  | some N =>
   rw[d]at c
   show zBU N (r++b)=_
   rw[recGo_app,show zBU N r=some M' from c];rfl
theorem zED:∀(l:List Ent) (M:zAH),(∀e∈l,zAt e=true)→M.last+l.length≤1099511627776→zBU M (zAx M.last l)=some {M with entries:=M.entries++l}
 | [],M,_,_=>by
  show some M=_
  rw[List.append_nil]
 | e::l,M,h,hn=>by
  show((zBe false M (zEt (M.last+1) e)).bind fun M'=>zBU M' (zAx (M.last+1) l))=_
  rw[rec_ent (h e (by simp)) (by simp at hn;omega)];have b:({M with entries:=M.entries++[e] }:zAH).last=M.last+1:=by
   show M.number+(M.entries++[e]).length=M.number+M.entries.length+1
   rw[List.length_append];rfl
  have:=zED l {M with entries:=M.entries++[e] } (fun x c=>h x (by simp[c])) (by rw[b];simp at hn;omega);rw[b]at this
  show zBU {M with entries:=M.entries++[e] } (zAx (M.last+1) l)=_
  rw[this,List.append_assoc];rfl
theorem zGV {M N:zAH}(l:M.last≤1099511627776)(c:zDG M.term=true)(k:zAX M.group=true)(hn:zDG M.now=true)(m:-1≤M.vote∧M.vote<7)(j:∀e∈M.entries,zAt e=true)
  (g:N.now=0) (i:N.vote=-1) (f:N.entries=[]):zCC N M.rows=some {M with data:=N.data,dead:=N.dead}:=by
 unfold zDG at c hn;simp only[decide_eq_true_eq]at c hn;have b:M.number+M.entries.length≤1099511627776:=l
 show((zBe true N (zEo M.number M.term M.group)).bind fun M'=>zBU M' (zCV M.now M.vote::zAx M.number M.entries))=_
 rw[rec_fst (by omega) c k]
 show((zBe false {N with number:=M.number,term:=M.term,group:=M.group} (zCV M.now M.vote)).bind fun M'=>zBU M' (zAx M.number M.entries))=_
 rw[rec_trm (by
  unfold zAH.mayVote;simp only[g,i];simp;omega) (by show 0≤N.now;omega)]
 have d:({N with number:=M.number,term:=M.term,group:=M.group,now:=M.now,vote:=M.vote}:zAH).last=M.number:=by
  show M.number+N.entries.length=_
  rw[f];rfl
 have:=zED M.entries {N with number:=M.number,term:=M.term,group:=M.group,now:=M.now,vote:=M.vote} j (by rw[d];exact b);rw[d]at this
 show zBU {N with number:=M.number,term:=M.term,group:=M.group,now:=M.now,vote:=M.vote} (zAx M.number M.entries)=_
 rw[this];simp only[f,List.nil_append]
def intsV (l:List Int):List Value:=l.map (Value.int .i64)
def zCp (w:World)(v:Value)(l:List Int):Prop:=OwnR w 3 1 v l.length (intsV l)
theorem zCp.has {w:World}{v:Value}{l:List Int}(h:zCp w v l):zBg w v l:=OwnR.holds h
theorem zCp.keep {w w':World}{v:Value}{l:List Int}(h:zCp w v l)(b:∀k,v.ownBlock=some k→w'.heap[k]?=w.heap[k]?):zCp w' v l:=OwnR.keep h b
theorem zGN {w w':World}{v:Value}{l:List Int}(h:zCp w v l)(b:Below w.heap.size w w'):zCp w' v l:=OwnR.keep h fun k c=>b.block k (OwnR.lt h c)
theorem zAw {w:World}{v:Value}{l:List Int}(h:zCp w v l):∃p c,v=.slice p l.length c∧l.length≤c:=by
 rcases h.2 with⟨rfl,hn⟩|⟨g,b,cur,rfl,_,d,_⟩
 ·exact⟨none,0,by rw[hn],by omega⟩
 ·exact⟨_,b,rfl,d⟩
/-! ### Entries in memory -/
abbrev EV:=Value×Value
def zEm (e:Ent)(v:EV):List Value:=[.int .i64 e.term,.int .i64 e.kind,v.1,v.2]
def zAz:List Ent→List EV→List Value
 | e::es,v::vs=>zEm e v++zAz es vs
 | _,_=>[]
theorem zDy:∀(es:List Ent) (vs:List EV),vs.length=es.length→(zAz es vs).length=es.length*4
 | [],[],_=>rfl
 | e::es,v::vs,h=>by
  show(zEm e v++zAz es vs).length=_
  rw[List.length_append,zDy es vs (by simpa using h),List.length_cons]
  show 4+_=_
  omega
 | [],_::_,h=>by simp at h
 | _::_,[],h=>by simp at h
theorem zEv:∀(es:List Ent) (vs:List EV) (b:List Ent) (c:List EV),vs.length=es.length→zAz (es++b) (vs++c)=zAz es vs++zAz b c
 | [],[],_,_,_=>rfl
 | e::es,v::vs,b,c,h=>by
  show zEm e v++zAz (es++b) (vs++c)=zEm e v++zAz es vs++zAz b c
  rw[zEv es vs b c (by simpa using h),List.append_assoc]
 | [],_::_,_,_,h=>by simp at h
 | _::_,[],_,_,h=>by simp at h
theorem zFK:∀(k:Nat) (es:List Ent) (vs:List EV),vs.length=es.length→zAz (es.take k) (vs.take k)=(zAz es vs).take (k*4)
 | 0,_,_,_=>by simp[zAz]
 | k+1,[],[],_=>by simp[zAz]
 | k+1,e::es,v::vs,h=>by
  show zEm e v++zAz (es.take k) (vs.take k)=(zEm e v++zAz es vs).take ((k+1)*4)
  have b:(zEm e v).length=4:=rfl;rw[zFK k es vs (by simpa using h),List.take_append,List.take_of_length_le (l:=zEm e v) (by omega),b,show(k+1)*4-4=k*4 by omega]
 | k+1,[],_::_,h=>by simp at h
 | k+1,_::_,[],h=>by simp at h
theorem entsC_drop:∀(k:Nat) (es:List Ent) (vs:List EV),vs.length=es.length→zAz (es.drop k) (vs.drop k)=(zAz es vs).drop (k*4)
 | 0,_,_,_=>by simp
 | k+1,[],[],_=>by simp[zAz]
 | k+1,e::es,v::vs,h=>by
  show zAz (es.drop k) (vs.drop k)=(zEm e v++zAz es vs).drop ((k+1)*4)
  have b:(zEm e v).length=4:=rfl;rw[entsC_drop k es vs (by simpa using h),List.drop_append,List.drop_of_length_le (l:=zEm e v) (by omega),List.nil_append,b,show(k+1)*4-4=k*4 by omega]
 | k+1,[],_::_,h=>by simp at h
 | k+1,_::_,[],h=>by simp at h
theorem zEM:∀(es:List Ent) (vs:List EV) (i:Nat) (e:Ent) (v:EV),es[i]?=some e→vs[i]?=some v→∀(j:Nat) u,(zEm e v)[j]?=some u→(zAz es vs)[i*4+j]?=some u
 | [],_,i,e,v,h,_=>by simp at h
 | _::_,[],i,e,v,_,h=>by simp at h
 | x::es,y::vs,0,e,v,h1,h2=>by
  simp only[List.getElem?_cons_zero,Option.some.injEq]at h1 h2;subst h1;subst h2;intro j u b;have c:j<4:=by
   have:=(List.getElem?_eq_some_iff.1 b).1;exact this
  show(zEm x y++zAz es vs)[0*4+j]?=_
  rw[List.getElem?_append_left (by show _<4;omega),show 0*4+j=j by omega];exact b
 | x::es,y::vs,i+1,e,v,h1,h2=>by
  intro j u b;have:=zEM es vs i e v (by simpa using h1) (by simpa using h2) j u b
  show(zEm x y++zAz es vs)[(i+1)*4+j]?=_
  rw[List.getElem?_append_right (by show 4≤_;omega)]
  show(zAz es vs)[(i+1)*4+j-4]?=_
  rw[show(i+1)*4+j-4=i*4+j by omega];exact this
structure zDg (w:World)(e:Ent)(v:EV):Prop where
 data:zAk w 5 v.1 e.data
 nodes:zCp w v.2 e.nodes
theorem zDg.keep {w w':World}{e:Ent}{v:EV}(h:zDg w e v)(c:∀k,(v.1.ownBlock=some k∨v.2.ownBlock=some k)→w'.heap[k]?=w.heap[k]?):zDg w' e v :=
 ⟨OwnR.keep h.data fun k b=>c k (.inl b),OwnR.keep h.nodes fun k b=>c k (.inr b)⟩
theorem zDg.lt {w:World}{e:Ent}{v:EV}(h:zDg w e v){k:Nat}(b:v.1.ownBlock=some k∨v.2.ownBlock=some k):k<w.heap.size:=b.elim (OwnR.lt h.data) (OwnR.lt h.nodes)
def EntsAt (w:World)(es:List Ent)(vs:List EV):Prop:=vs.length=es.length∧∀(i:Nat) e v,es[i]?=some e→vs[i]?=some v→zDg w e v
structure zAH.OK (M:zAH):Prop where
 last:M.last≤1099511627776
 term:zDG M.term=true
 group:zAX M.group=true
 now:zDG M.now=true
 vote:-1≤M.vote∧M.vote<7
 data:M.data.length≤1073741824
 ents:∀e∈M.entries,zAt e=true
theorem zAl {n:Int}:zDG n=true↔0≤n∧n≤1099511627776:=by simp[zDG]
theorem zES {l:List Int}(h:zAX l=true):1≤l.length∧l.length≤7:=by
 unfold zAX at h;simp only[Bool.and_eq_true,decide_eq_true_eq]at h;exact h.2
/-! ### A journal in memory -/
structure zBn (w:World)(j d:Nat)(pre:ByteArray)(own:Nat→Prop)(M:zAH)(gv dv ev:Value)(vs:List EV):Prop where
 cells:w.heap[j]?=some (.cells #[.int .i64 (M.number:Int),.int .i64 M.term,gv,.pointer (some ⟨d,0,none⟩),.string pre,.int .i64 M.now,.int .i64 M.vote,dv,ev,.bool M.dead] 132 (0,0))
 group:zCp w gv M.group
 data:zAk w 5 dv M.data
 row:OwnR w 50 4 ev M.entries.length (zAz M.entries vs)
 rows:EntsAt w M.entries vs
 ol:own j
 og:∀k,gv.ownBlock=some k→own k∧k≠j∧ev.ownBlock≠some k
 od:∀k,dv.ownBlock=some k→own k∧k≠j∧ev.ownBlock≠some k
 oe:∀k,ev.ownBlock=some k→own k∧k≠j
 ov:∀u∈vs,∀k,(u.1.ownBlock=some k∨u.2.ownBlock=some k)→own k∧k≠j∧ev.ownBlock≠some k
 olt:∀k,own k→k<w.heap.size
 psz:1≤pre.size∧pre.size≤20
 ok:M.OK
section
variable {w w':World} {j d:Nat} {pre:ByteArray} {own:Nat→Prop} {M:zAH} {gv dv ev:Value} {vs:List EV}
theorem zBn.keep (h:zBn w j d pre own M gv dv ev vs)(c:∀k,own k→w'.heap[k]?=w.heap[k]?)(l:∀k,own k→k<w'.heap.size):zBn w' j d pre own M gv dv ev vs where
 cells:=(c j h.ol).trans h.cells
 group:=OwnR.keep h.group fun k b=>c k (h.og k b).1
 data:=OwnR.keep h.data fun k b=>c k (h.od k b).1
 row:=h.row.keep fun k b=>c k (h.oe k b).1
 rows:=⟨h.rows.1,fun i e v g f=>(h.rows.2 i e v g f).keep fun k b=>c k (h.ov v (List.mem_of_getElem? f) k b).1⟩
 ol:=h.ol
 og:=h.og
 od:=h.od
 oe:=h.oe
 ov:=h.ov
 olt:=l
 psz:=h.psz
 ok:=h.ok
theorem zBn.below (h:zBn w j d pre own M gv dv ev vs)(c:Below w.heap.size w w'):zBn w' j d pre own M gv dv ev vs :=
 h.keep (fun k b=>c.block k (h.olt k b)) fun k b=>Nat.lt_of_lt_of_le (h.olt k b) c.size
theorem zBn.c (h:zBn w j d pre own M gv dv ev vs)(i:Nat){v:Value}(b:(#[.int .i64 (M.number:Int),.int .i64 M.term,gv,.pointer (some ⟨d,0,none⟩),.string pre,.int .i64 M.now,.int .i64 M.vote,dv,ev,.bool M.dead]:Array Value)[i]?=some v):w.cell? ⟨j,i,none⟩=some v:=zAG h.cells b
theorem zBn.fr (h:zBn w j d pre own M gv dv ev vs)(i:Nat):w.frozen? ⟨j,i,none⟩=false:=zAE h.cells i
theorem zBn.ent (h:zBn w j d pre own M gv dv ev vs){i:Nat}{e:Ent}(m:M.entries[i]?=some e):∃g c v,ev=.slice (some ⟨g,0,none⟩) M.entries.length c∧vs[i]?=some v∧zDg w e v ∧
  w.cell? ⟨g,i*4,none⟩=some (.int .i64 e.term)∧w.cell? ⟨g,i*4+1,none⟩=some (.int .i64 e.kind)∧w.cell? ⟨g,i*4+2,none⟩=some v.1∧w.cell? ⟨g,i*4+3,none⟩=some v.2:=by
 have n:=(List.getElem?_eq_some_iff.1 m).1;have f:vs[i]?=some (vs[i]'(by rw[h.rows.1];exact n)):=List.getElem?_eq_getElem _;generalize vs[i]'(by rw[h.rows.1];exact n)=v at f;rcases h.row.2 with⟨-,p⟩|⟨g,l,cur,rfl,-⟩
 ·omega
 ·have b:∀(k:Nat) u,(zEm e v)[k]?=some u→w.cell? ⟨g,i*4+k,none⟩=some u:=fun k u o=>by
   have:=h.row.cells (g:=g) rfl (i*4+k) u (zEM _ _ i e v m f k u o);rwa[add_zero]at this
  exact⟨g,l,v,rfl,f,h.rows.2 i e v m f,b 0 _ rfl,b 1 _ rfl,b 2 _ rfl,b 3 _ rfl⟩
end
def zAj (w w1:World)(j d:Nat)(pre:ByteArray)(D:zAA)(M:zAH)(F:Nat→Prop):Prop :=
 ∃own gv dv ev vs,zBn w1 j d pre own M gv dv ev vs∧St w w1 d D (fun k=>own k∨F k)∧(∀k,own k→w.heap.size≤k∧¬F k)∧∀k,F k→k<w1.heap.size
def zFy (j d:Nat)(pre:ByteArray)(w:World):Prop:=w.cell? ⟨j,3,none⟩=some (.pointer (some ⟨d,0,none⟩))∧w.cell? ⟨j,4,none⟩=some (.string pre)∧pre.size≤20
theorem zBn.jc {w:World}{j d:Nat}{pre:ByteArray}{own:Nat→Prop}{M:zAH}{gv dv ev:Value}{vs:List EV}(h:zBn w j d pre own M gv dv ev vs):zFy j d pre w:=⟨h.c 3 rfl,h.c 4 rfl,h.psz.2⟩
theorem zFy.same {l d:Nat}{pre:ByteArray}{w w':World}(h:zFy l d pre w)(b:w'.heap[l]?=w.heap[l]?):zFy l d pre w' :=
 ⟨(World.cell?_of_block (a:=⟨l,3,none⟩) b).trans h.1,(World.cell?_of_block (a:=⟨l,4,none⟩) b).trans h.2.1,h.2.2⟩
section
variable {w w1 w2:World} {j d:Nat} {pre:ByteArray} {D:zAA} {M:zAH} {F F':Nat→Prop}
theorem zAj.bel (h:zAj w w1 j d pre D M F):Below w.heap.size w w1:=let ⟨_,_,_,_,_,_,hS,_,_⟩:=h;hS.below
theorem zAj.okD (h:zAj w w1 j d pre D M F):D.OK:=let ⟨_,_,_,_,_,_,hS,_,_⟩:=h;hS.ok
theorem zAj.flt (h:zAj w w1 j d pre D M F){k:Nat}(b:F k):k<w1.heap.size:=let ⟨_,_,_,_,_,_,_,_,hF⟩:=h;hF k b
theorem zAj.jc (h:zAj w w1 j d pre D M F):zFy j d pre w1:=let ⟨_,_,_,_,_,hJ,_,_,_⟩:=h;hJ.jc
theorem zAj.stF (h:zAj w w1 j d pre D M F):St w w1 d D F:=let ⟨_,_,_,_,_,_,hS,_,_⟩:=h;hS.less fun _ b=>.inr b
theorem zAj.st (h:zAj w w1 j d pre D M F):St w w1 d D NoF:=let ⟨_,_,_,_,_,_,hS,_,_⟩:=h;hS.noF
theorem zAj.jlt (h:zAj w w1 j d pre D M F):j<w1.heap.size:=let ⟨_,_,_,_,_,hJ,_,_,_⟩:=h;hJ.olt j hJ.ol
theorem zAj.okM (h:zAj w w1 j d pre D M F):M.OK:=let ⟨_,_,_,_,_,hJ,_,_,_⟩:=h;hJ.ok
theorem zAj.psz (h:zAj w w1 j d pre D M F):1≤pre.size∧pre.size≤20:=let ⟨_,_,_,_,_,hJ,_,_,_⟩:=h;hJ.psz
theorem zAj.move {S:Nat→Prop}(h:zAj w w1 j d pre D M F)(f:Chg S w1 w2)(hS:∀k,k<w1.heap.size→S k→F k∧w.heap.size≤k)(hF:∀k,F' k→(F k∨w1.heap.size≤k)∧k<w2.heap.size):zAj w w2 j d pre D M F':=by
 obtain⟨own,gv,dv,ev,vs,c,i,hn,m⟩:=h;refine⟨own,gv,dv,ev,vs,c.keep (fun k b=>f.block k (c.olt k b) fun g=>(hn k b).2 (hS k (c.olt k b) g).1) fun k b=>Nat.lt_of_lt_of_le (c.olt k b) f.size,i.move f (fun k b g=>⟨.inr (hS k b g).1,(hS k b g).2⟩) (fun k b=>?_),fun k b=>⟨(hn k b).1,fun l=>?_⟩,fun k b=>(hF k b).2⟩
 ·rcases b with b|b
  ·exact⟨.inl (.inl b),Nat.lt_of_lt_of_le (c.olt k b) f.size⟩
  ·exact⟨(hF k b).1.imp .inr id,(hF k b).2⟩
 ·rcases(hF k l).1 with h|h
  ·exact(hn k b).2 h
  ·have:=c.olt k b;omega
theorem zAj.next (h:zAj w w1 j d pre D M F)(b:Below w1.heap.size w1 w2):zAj w w2 j d pre D M F :=
 h.move (Chg.of_below b) (fun _ _ h=>h.elim) fun _ c=>⟨.inl c,Nat.lt_of_lt_of_le (h.flt c) b.size⟩
theorem zAj.drewN (h:zAj w w1 j d pre D M F)(q:Nat):zAj w (w1.drewN q) j d pre D M F:=h.next ⟨rfl,rfl,rfl,Nat.le_refl _,fun _ _=>rfl⟩
theorem zAj.same (h:zAj w w1 j d pre D M F)(b:Below w1.heap.size w1 w2):Same F w1 w2:=fun _ c=>b.block _ (h.flt c)
theorem zAj.less (h:zAj w w1 j d pre D M F)(hF:∀k,F' k→F k):zAj w w1 j d pre D M F' :=
 h.move (Chg.refl _ _:Chg (fun _=>False) w1 w1) (fun _ _ h=>h.elim) fun _ b=>⟨.inl (hF _ b),h.flt (hF _ b)⟩
theorem zAj.more (h:zAj w w1 j d pre D M F)(c:Below w1.heap.size w1 w2)(hF:∀k,F' k→F k∨w1.heap.size≤k∧k<w2.heap.size):zAj w w2 j d pre D M F' :=
 h.move (Chg.of_below c) (fun _ _ h=>h.elim) fun k f=>by
  rcases hF k f with b|b
  ·exact⟨.inl b,Nat.lt_of_lt_of_le (h.flt b) c.size⟩
  ·exact⟨.inr b.1,b.2⟩
theorem zAj.box (h:zAj w w1 j d pre D M F)(o:Obj):zAj w (w1.alloc o) j d pre D M (fun k=>F k∨k=w1.heap.size) :=
 h.more (zAC w1 o) fun k b=>b.imp id fun e=>⟨by omega,by simp;omega⟩
theorem zFQ {P:Program}{f:FuncId}{args:Array Value}{Re:zAA×Nat}{wc:World}(h:zAj w w1 j d pre D M F)(i:Below w1.heap.size w1 wc)(n:∀G,St w w1 d D G→Calls P f args wc (Told w d G wc Re)) :
  Calls P f args wc fun e w'=>e=.returned (.int .i64 (Re.2:Int))∧zAj w w' j d pre Re.1 M F∧Same F w1 w'∧w'.heap[j]?=w1.heap[j]?:=by
 obtain⟨own,gv,dv,ev,vs,g,hS,hn,m⟩:=h;refine(n _ hS).mono ?_;rintro e w' ⟨rfl,c,l⟩;refine⟨rfl,⟨own,gv,dv,ev,vs,?_,c,hn,fun k b=>c.flt (.inr b)⟩,fun k b=>(l k (.inr b)).trans (i.block k (m k b)),(l j (.inl g.ol)).trans (i.block j (g.olt j g.ol))⟩;exact(g.below i).keep (fun k b=>l k (.inl b)) fun k b=>c.flt (.inl b)
theorem zAj.turned {own own':Nat→Prop}{M':zAH}{gv' dv' ev':Value}{vs':List EV}(hS:St w w1 d D (fun k=>own k∨F k))(hn:∀k,own k→w.heap.size≤k∧¬F k)(g:∀k,F k→k<w1.heap.size)
  (c:zBn w2 j d pre own' M' gv' dv' ev' vs') (f:Chg own w1 w2) (i:∀k,own' k→own k∨w1.heap.size≤k):zAj w w2 j d pre D M' F∧Same F w1 w2:=by
 refine⟨⟨own',gv',dv',ev',vs',c,hS.move f (fun k _ b=>⟨.inl b,(hn k b).1⟩) (fun k b=>?_),fun k b=>?_,fun k b=>Nat.lt_of_lt_of_le (g k b) f.size⟩,fun k b=>f.block k (g k b) fun m=>(hn k m).2 b⟩
 ·rcases b with b|b
  ·exact⟨(i k b).imp .inl id,c.olt k b⟩
  ·exact⟨.inl (.inr b),Nat.lt_of_lt_of_le (g k b) f.size⟩
 ·rcases i k b with h|h
  ·exact hn k h
  ·exact⟨Nat.le_trans hS.below.size h,fun l=>by have:=g k l;omega⟩
end
theorem zBn.set {w w':World}{j d:Nat}{pre:ByteArray}{own:Nat→Prop}{M M':zAH}{gv dv ev:Value}{vs:List EV}(h:zBn w j d pre own M gv dv ev vs)
  (l:w'.heap[j]?=some (.cells #[.int .i64 (M'.number:Int),.int .i64 M'.term,gv,.pointer (some ⟨d,0,none⟩),.string pre,.int .i64 M'.now,.int .i64 M'.vote,dv,ev,.bool M'.dead] 132 (0,0)))
  (f:∀k,k≠j→w'.heap[k]?=w.heap[k]?) (o:w'.heap.size=w.heap.size) (n:M'.group=M.group) (m:M'.data=M.data) (c:M'.entries=M.entries) (ok:M'.OK):zBn w' j d pre own M' gv dv ev vs where
 cells:=l
 group:=by rw[n];exact OwnR.keep h.group fun k b=>f k (h.og k b).2.1
 data:=by rw[m];exact OwnR.keep h.data fun k b=>f k (h.od k b).2.1
 row:=by rw[c];exact h.row.keep fun k b=>f k (h.oe k b).2
 rows:=by rw[c];exact⟨h.rows.1,fun i e v c g=>(h.rows.2 i e v c g).keep fun k b=>f k (h.ov v (List.mem_of_getElem? g) k b).2.1⟩
 ol:=h.ol
 og:=h.og
 od:=h.od
 oe:=h.oe
 ov:=h.ov
 olt:=fun k b=>by rw[o];exact h.olt k b
 psz:=h.psz
 ok:=ok
end Go.Proofs.YtapfnehdgailmaaGreat
