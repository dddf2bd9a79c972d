/- What the program's functions and the document's do, and plain laws, for PZoneStates. -/
import Derived.BigFrame
import Derived.Deep.MidRow
import Derived.Laws.CopyRow
import Derived.Laws.EntriesVeiled
import Derived.OwnWalk
import Derived.Test.YtmcanphlgkolcaaGreatDoorCA
import Derived.Test.YtmcanphlgkolcaaGreatDoorCD
import Derived.Test.YtmcanphlgkolcaaGreatDoorCE
import Derived.Test.YtmcanphlgkolcaaGreatDoorCG
import Derived.Test.YtmcanphlgkolcaaGreatDoorCI
open Go.Proofs.Tryz
set_option maxRecDepth 100000
set_option maxHeartbeats 64000000
namespace Go.Proofs.YtmcanphlgkolcaaGreatDoor
open Go.RowKit Go.Sat Go.Maps
structure Lies (pre:Bs)(D:zAD)(im:Option (Nat×Bs))(es:List Bs):Prop where
 log:Sat.get (zBa pre) D.files=if es=[]then none else some (whole (zC4 (recF (zAz im) es)))
 img:Sat.get (zCT pre) D.files=im.map fun x=>whole (zAM (zCh x.1 x.2))
 sh:Sat.get (zAL (zCT pre)) D.files=none
structure Tame (D:zAD)(u c:Nat):Prop where
 room:65536≤D.room
 fuse:D.fuse=none
 used:D.used≤u
 count:D.files.length≤c
theorem log_ok {pre:Bs}(h:pre.length≤20):okN (zBa pre)=true:=by
 have:(zBa pre).length=pre.length+4:=by simp[zBa,logX]
 simp[okN,this];omega
theorem img_len (pre:Bs):(zCT pre).length=pre.length+4:=by simp[zCT,imgX]
theorem log_img (pre:Bs):zBa pre≠zCT pre:=fun e=>by
 have:=List.append_cancel_left e;exact absurd this (by decide)
theorem log_sh (pre:Bs):zBa pre≠zAL (zCT pre):=fun e=>by
 have:=congrArg List.length e;rw[zDQ,img_len]at this;simp[zBa,logX]at this
theorem img_sh (pre:Bs):zCT pre≠zAL (zCT pre):=shadow_ne _
theorem lies_img {pre:Bs}{D:zAD}{im:Option (Nat×Bs)}{es:List Bs}(h:Lies pre D im es)(b:OkI im):zA2 (Sat.get (zCT pre) D.files)=(0,zAz im,dataI im):=by
 rw[h.img];cases im with
 | none=>exact image_none
 | some x=>exact image_some x.1 x.2 b.1 b.2
theorem openG {D b:zAD}{pre:Bs}{i:Nat×Nat×Bs}{g:zAD×Nat×List Bs}(k:1≤pre.length∧pre.length≤20)(d:D.rid [zAL (zCT pre)]=(b,0))(j:zA2 (Sat.get (zCT pre) b.files)=i)(c:i.1=0)(f:zCM b pre i.2.1=g):zA6 D pre=(g.1,g.2.1,⟨i.2.1,i.2.2,g.2.2,false⟩):=by
 unfold zA6;rw[if_neg (by omega),d];rw[if_neg (by simp)];dsimp only;rw[j,if_neg (by simpa using c),f]
theorem open_lies {pre:Bs}{D:zAD}{im:Option (Nat×Bs)}{es:List Bs}(n:1≤pre.length∧pre.length≤20)(h:Lies pre D im es)(k:OkI im)(f:Fits (zAz im) es):zA6 D pre=(D,0,MM im es):=by
 refine openG (i:=(0,zAz im,dataI im)) (g:=(D,0,es)) n (rid_none h.sh) (lies_img h k) rfl ?_;unfold zCM;rw[h.log]
 by_cases b:es=[]
 ·subst b;rw[if_pos rfl]
 ·rw[if_neg b];obtain⟨o,m⟩:=takeAll_new (zAz im) es [] (-1) (.inl rfl) (by simpa using f);have d:=scan_recs (recF (zAz im) es) [] f.rows (.inl rfl);rw[List.append_nil]at d;have c:zCA (zAz im) (-1,[]) (recF (zAz im) es)=some (o,es):=by simpa using m
  have j:zBW D (zBa pre) (zC4 (recF (zAz im) es)).length (zC4 (recF (zAz im) es)).length=(D,0):=if_neg (by omega);dsimp only
  show(match zCA (zAz im) (-1,[]) (zDT (zC4 (recF (zAz im) es))).1 with|none=>_|some s=>_)=_
  rw[d,c];dsimp only;rw[show(whole (zC4 (recF (zAz im) es))).data=zC4 (recF (zAz im) es)from rfl,d,j,if_neg (by simp),if_neg b]
theorem used_put (n:Bs)(f:zAT)(L:List (Bs×zAT))(h:Srt L):zA7 zAD.size (put n f L)≤f.data.length+zA7 zAD.size L:=by
 rw[sum_put];have:zA7 zAD.size (del n L)≤zA7 zAD.size L:=by
  cases b:Sat.get n L with
  | none=>rw[zCR b];exact Nat.le_refl _
  | some a =>
   rw[zC1 h b];omega
 show f.data.length+_≤_
 omega
theorem used_del (n:Bs)(L:List (Bs×zAT))(h:Srt L):zA7 zAD.size (del n L)≤zA7 zAD.size L:=by
 cases b:Sat.get n L with
 | none=>rw[zCR b];exact Nat.le_refl _
 | some a =>
  rw[zC1 h b];omega
theorem count_del (n:Bs)(L:List (Bs×zAT))(h:Srt L):(del n L).length≤L.length:=by
 cases b:Sat.get n L with
 | none=>rw[zCR b];exact Nat.le_refl _
 | some a =>
  rw[len_del h b];omega
theorem count_put (n:Bs)(f:zAT)(L:List (Bs×zAT))(h:Srt L):(put n f L).length≤L.length+1:=by
 rw[len_put];have:=count_del n L h;omega
theorem used_app {D:zAD}(h:Srt D.files)(n b:Bs)(k:Nat):zA7 zAD.size (put n ⟨(D.cur n).data++b,k⟩ D.files)≤D.used+b.length:=by
 rw[sum_put];have d:D.used=zAD.size (D.cur n)+zA7 zAD.size (del n D.files):=by
  unfold zAD.used zAD.cur;cases c:Sat.get n D.files with
  | none =>
   rw[zCR c]
   show _=0+_
   omega
  | some a=>exact zC1 h c
 rw[d]
 show((D.cur n).data++b).length+_≤(D.cur n).data.length+_+_
 rw[List.length_append];omega
section
variable {pre:Bs} {D:zAD} {im:Option (Nat×Bs)} {es:List Bs} {u c:Nat} {p:Bs}
theorem app_lies (a:pre.length≤20)(f:D.OK)(d:Tame D u c)(h:Lies pre D im es)(y:OkI im)(k:Fits (zAz im) (es++[p]))(E:u+p.length+30≤65536)(B:c<4096) :
  ∃D2,zAV pre D (MM im es) p=⟨D2,MM im (es++[p]),zAz im+es.length+1,0⟩∧Lies pre D2 im (es++[p])∧Tame D2 (u+p.length+30) (c+1)∧∀m,m≠zBa pre→Sat.get m D2.files=Sat.get m D.files:=by
 have hn:=log_ok a;have A:D.fuse≠some 0:=by rw[d.fuse];intro e;cases e
 have C:=imgB_len (zAz im+es.length+1) p (by have:=k.1;simp at this;omega) (by have:=k.2 p (by simp);omega);have v:=zBO (zCh (zAz im+es.length+1) p);have q:=append_ok (D:=D) (n:=zBa pre) (b:=zAM (zCh (zAz im+es.length+1) p)) A hn (by have:=d.used;have:=d.room;omega) (by have:=d.count;omega);have i:(D.cur (zBa pre)).data=zC4 (recF (zAz im) es):=by
  unfold zAD.cur;rw[h.log]
  by_cases j:es=[]
  ·rw[if_pos j,j];rfl
  ·rw[if_neg j];rfl
 have o:Sat.get (zBa pre) (put (zBa pre) ⟨(D.cur (zBa pre)).data++zAM (zCh (zAz im+es.length+1) p),(D.cur (zBa pre)).lasts⟩ D.files)=some _:=zBe f.srt _ _;have r:=sync_ok (D:=⟨D.room,put (zBa pre) ⟨(D.cur (zBa pre)).data++zAM (zCh (zAz im+es.length+1) p),(D.cur (zBa pre)).lasts⟩ D.files,offF D.fuse 1⟩) (n:=zBa pre) (by rw[d.fuse];intro e;cases e) hn o;rw[i,←recs_app]at q r;have t:layOn D (zBa pre) (zAM (zCh (zAz im+es.length+1) p))=(⟨D.room,put (zBa pre) (whole (zC4 (recF (zAz im) (es++[p])))) D.files,none⟩,0):=by
  unfold layOn;rw[q,if_neg (by simp)];refine r.trans ?_
  show((⟨_,put (zBa pre) _ (put (zBa pre) _ D.files),offF (offF D.fuse 1) 1⟩:zAD),0)=_
  rw[put_put f.srt,d.fuse];rfl
 refine⟨⟨D.room,put (zBa pre) (whole (zC4 (recF (zAz im) (es++[p])))) D.files,none⟩,?_,⟨?_,?_,?_⟩,⟨d.room,rfl,?_,?_⟩,fun m z=>zBD f.srt _ z⟩
 ·unfold zAV;rw[if_neg (by simp[MM]),if_neg (app_first y k),MM_last,t,if_neg (by simp)];rfl
 ·show Sat.get _ (put _ _ _)=_
  rw[zBe f.srt,if_neg (by simp)]
 ·show Sat.get _ (put _ _ _)=_
  rw[zBD f.srt _ (log_img pre).symm,h.img]
 ·show Sat.get _ (put _ _ _)=_
  rw[zBD f.srt _ (log_sh pre).symm,h.sh]
 ·have s:=used_app f.srt (zBa pre) (zAM (zCh (zAz im+es.length+1) p)) (zC4 (recF (zAz im) (es++[p]))).length;rw[i,←recs_app]at s;have:=d.used;refine Nat.le_trans s ?_;omega
 ·exact Nat.le_trans (count_put _ _ _ f.srt) (by have:=d.count;omega)
theorem rid_gone {n:Bs}(_:Srt D.files)(b:D.fuse=none)(hn:okN n=true):D.rid [n]=(⟨D.room,del n D.files,none⟩,0):=by
 cases c:Sat.get n D.files with
 | none =>
  rw[rid_none c,zCR c,←b]
 | some f =>
  rw[rid_some (by rw[b];intro e;cases e) hn c,b];rfl
theorem wri_lies {n:Nat}(s:1≤pre.length∧pre.length≤20)(b:D.OK)(d:Tame D u c)(h:Lies pre D im es)(z:zAz im+es.length≤n)(hn:n≤1099511627776)(t:p.length≤524288)(A:u+p.length+30≤65536)(y:c<4096) :
  ∃D2,zAs pre D (MM im es) (n:Int) p=⟨D2,MM (some (n,p)) [],0,0⟩∧Lies pre D2 (some (n,p)) []∧Tame D2 (u+p.length+30) (c+1)∧∀m,m≠zBa pre→m≠zCT pre→Sat.get m D2.files=Sat.get m D.files:=by
 have k:=imgB_len n p (by omega) (by omega);have r:=zBO (zCh n p);have o:=save_all (D:=D) (n:=zCT pre) (l:=zCh n p) b (fun j e=>by rw[d.fuse]at e;cases e) (by rw[img_len];omega) (by rw[img_len];omega) h.sh (by have:=d.used;have:=d.room;omega) (by have:=d.count;omega);rw[d.fuse]at o;have v:=rid_gone (D:=⟨D.room,put (zCT pre) ⟨zAM (zCh n p),(zAM (zCh n p)).length⟩ D.files,offF none 3⟩) (n:=zBa pre) (zBw b.srt) rfl (log_ok s.2);have q:imgOn pre D n p=(⟨D.room,del (zBa pre) (put (zCT pre) (whole (zAM (zCh n p))) D.files),none⟩,0):=by
  unfold imgOn;rw[o,if_neg (by simp)];exact v
 have hS:=zBw (n:=zCT pre) (a:=whole (zAM (zCh n p))) b.srt;refine⟨⟨D.room,del (zBa pre) (put (zCT pre) (whole (zAM (zCh n p))) D.files),none⟩,?_,⟨?_,?_,?_⟩,⟨d.room,rfl,?_,?_⟩,fun m f i=>?_⟩
 ·unfold zAs;rw[if_neg (by simp[MM]),if_neg (by rw[MM_last];omega),if_neg (by omega),Int.toNat_natCast,q,if_neg (by simp)];rfl
 ·show Sat.get _ (del _ _)=_
  rw[zDp,if_pos rfl]
 ·show Sat.get _ (del _ _)=_
  rw[zB8 hS (log_img pre).symm,zBe b.srt];rfl
 ·show Sat.get _ (del _ _)=_
  rw[zB8 hS (log_sh pre).symm,zBD b.srt _ (img_sh pre).symm,h.sh]
 ·refine Nat.le_trans (used_del _ _ hS) (Nat.le_trans (used_put _ _ _ b.srt) ?_);have:=d.used
  show(zAM (zCh n p)).length+D.used≤_
  omega
 ·exact Nat.le_trans (count_del _ _ hS) (Nat.le_trans (count_put _ _ _ b.srt) (by have:=d.count;omega))
 ·show Sat.get _ (del _ _)=_
  rw[zB8 hS f,zBD b.srt _ i]
end
theorem Lies.other {pre:Bs}{D c:zAD}{im:Option (Nat×Bs)}{es:List Bs}(h:Lies pre D im es)(b:∀m,m=zBa pre∨m=zCT pre∨m=zAL (zCT pre)→Sat.get m c.files=Sat.get m D.files):Lies pre c im es :=
 ⟨by rw[b _ (.inl rfl)];exact h.log,by rw[b _ (.inr (.inl rfl))];exact h.img,by rw[b _ (.inr (.inr rfl))];exact h.sh⟩
theorem lies_new (pre:Bs)(n:Nat):Lies pre (zAD.fresh n) none []:=⟨rfl,rfl,rfl⟩
theorem tame_new {n:Nat}(h:65536≤n):Tame (zAD.fresh n) 0 0:=⟨h,rfl,Nat.le_refl _,Nat.le_refl _⟩
def zEW (w w1:World)(z d:Nat)(h:zAj)(pre:ByteArray)(D:zAD)(M:zAl)(E:zBu)(ev:Value)(dead:Bool)(F:Nat→Prop):Prop :=
 ∃eb l vm sm tm am own,zAm w w1 l d pre D M (fun k=>F k∨k=z∨own k≠none∨ev.ownBlock=some k)∧w1.heap[z]?=some (zBR h eb l ev dead)∧zAI w1 eb vm sm tm am E own ∧
  (∀k,F k→k≠z∧own k=none∧ev.ownBlock≠some k)∧own z=none∧(∀k,ev.ownBlock=some k→k≠z∧own k=none)∧w.heap.size≤z∧(∀k,own k≠none→w.heap.size≤k)∧∀k,ev.ownBlock=some k→w.heap.size≤k
theorem St.more {w w1 b:World}{d:Nat}{D:zAD}{F F':Nat→Prop}(h:St w w1 d D F)(c:Below w1.heap.size w1 b)(hF:∀k,F' k→(F k∨w1.heap.size≤k)∧k<b.heap.size):St w b d D F':=h.move (Chg.of_below c) (fun _ _ h=>h.elim) hF
theorem open_same {w w1:World}{d:Nat}{D D':zAD}{M:zAl}{F:Nat→Prop}{a:ByteArray}(h:St w w1 d D F)(i:zA6 D (nm a)=(D',0,M)) :
  Calls prog 30 #[.pointer (some ⟨d,0,none⟩),.string a] w1 fun e w'=>∃l,e=.returned (.tuple #[.pointer (some ⟨l,0,none⟩),.int .i64 0])∧zAm w w' l d a D' M F∧Same F w1 w':=by
 have c:=open_calls h a;rw[i]at c;refine c.mono ?_;rintro e w' ⟨-,j,⟨-,l,rfl,f⟩|⟨b,-⟩⟩
 ·exact⟨l,rfl,f,j⟩
 ·exact absurd rfl b
theorem zAj.ranges {h:zAj}(b:h.is=true):(1≤h.id∧h.id≤1048576)∧(h.fr.size≤16∧h.tu.size≤16)∧(1≤h.epoch∧h.epoch≤1099511627776)∧1≤h.state∧h.state≤3:=by
 unfold zAj.is zC9 at b;simp at b;omega
theorem zAj.small_of {h:zAj}(b:h.is=true):h.small:=by
 have:=zAj.ranges b;unfold zAj.small;omega
theorem zAI.keep2 {w w':World}{f vm i j d:Nat}{E:zBu}{own:Nat→Option (Nat×Bs)}(h:zAI w f vm i j d E own)(b:∀k,own k≠none→w'.heap[k]?=w.heap[k]?):zAI w' f vm i j d E own :=
 ⟨(b f (by rw[h.oE];simp)).trans h.cells,h.vaults.keep (b vm (by rw[h.oV];simp)),
  fun p n=>(h.each p n).keep fun k c=>b k (by rcases c with rfl|rfl|rfl<;>simp[h.oP p n]),
  h.sess.keep (b i (by rw[h.oS];simp)),h.trans.keep (b j (by rw[h.oT];simp)),h.arr.keep (b d (by rw[h.oA];simp)),
  h.oE,h.oV,h.oS,h.oT,h.oA,h.oP,fun k c=>by
   have m:=b k c;rw[Array.getElem?_eq_getElem (h.oLt k c)]at m;exact zAA m⟩
def MadeZ (w w1:World)(d:Nat)(h:zAj)(pre:ByteArray)(D:zAD)(M:zAl)(F:Nat→Prop)(e:Ending)(w':World):Prop:=∃z,e=.returned (.tuple #[.pointer (some ⟨z,0,none⟩),.int .i64 0])∧zEW w w' z d h pre D M E0 (.slice none 0 0) false F∧Same F w1 w'
def HeadO (h:zAj):Obj:=.cells #[.int .i64 h.id,.string h.fr,.string h.tu,.int .i64 h.epoch,.int .i64 h.state] 35 (0,0)
theorem make0_calls {w w1:World}{d:Nat}{D D1 D2:zAD}{M1 M2:zAl}{F:Nat→Prop}(hS:St w w1 d D F)(h:zAj)(G:h.is=true)(n:Nat)(ae:h.id=(n:Int))(hn:n<100)(i:Int)(hi:-9223372036854775808≤i∧i≤9223372036854775807){p:Option Addr}{c:Nat}(hx:zAf w1 (.slice p 4 c) [0,0,0,0])
  (ho:zA6 D (nm (zpre n))=(D1,0,M1)) (hw:zAs (nm (zpre n)) D1 M1 i (zBm h [0,0,0,0])=⟨D2,M2,0,0⟩) (H:(zBm h [0,0,0,0]).length≤140737488355328) :
  Calls prog 9 #[.pointer (some ⟨d,0,none⟩),.agg #[.int .i64 h.id,.string h.fr,.string h.tu,.int .i64 h.epoch,.int .i64 h.state],.int .i64 i,.slice p 4 c] w1 (MadeZ w w1 d h (zpre n) D2 M2 F):=by
 have hr:=zAj.ranges G;have ak:=zh (zAj.small_of G);have HI:=zh (fun W=>zDt W h ⟨by omega,by omega⟩);rw[G]at HI;have Ho:=zh ho;have Hw:=zh hw;have S:=zh hS;have Hx:=zh hx;have Hl:=zh H;clear hr G ho hw hS hx H;obtain⟨id,fr,tu,E,I⟩:=h;obtain rfl:id=(n:Int):=ae;dsimp only at HI ⊢;have aa:=zAC w1 (HeadO ⟨n,fr,tu,E,I⟩);have ab:=zAF w1 (HeadO ⟨n,fr,tu,E,I⟩);have Hp:=zh (And.intro aa ab);clear aa ab
 go_enter func9,ntmps9
 go_wp2_with fail;refine(HI.o _).mono ?_;rintro e W2 ⟨rfl,s⟩;have y:=zh (Hp.o.1.trans (s.mono Hp.o.1.size));have Y:=zh ((s.block _ (zAA Hp.o.2)).trans Hp.o.2);clear s;have HD:=zh (zEa (zAf.below Hx.o y.o));go_wp2_with fail;refine HD.o.mono ?_;rintro e W3 ⟨eb,rfl,U,s⟩;have V:=zh (y.o.trans (s.mono y.o.size));have z:=zh ((s.block _ (zAA Y.o)).trans Y.o);have ai:=zh (U.less y.o.size);clear s U;have p1:W3.cell? ⟨w1.heap.size,1,none⟩=some (.string fr):=zAB z.o rfl;have p2:W3.cell? ⟨w1.heap.size,2,none⟩=some (.string tu):=zAB z.o rfl;obtain⟨vm,sm,tm,am,own,U,ho⟩:=ai.o;have HF:=zh (fits0_calls U fr tu);have HE:=zh (And.intro U ho);clear U ho;go_wp2_with fail;refine HF.o.mono ?_;rintro e T ⟨rfl,s⟩;have J:=zh (V.o.trans (s.mono V.o.size));have N:=zh ((s.block _ (zAA z.o)).trans z.o);have L:=zh (HE.o.1.bel s);clear s p1 p2;have p0:T.cell? ⟨w1.heap.size,0,none⟩=some (.int .i64 (n:Int)):=zAB N.o rfl;go_wp2_with fail;refine(zEo T n hn).mono ?_;rintro e al ⟨rfl,ad⟩;obtain rfl:T=al:=ad.symm;have HO:=zh (open_same (F:=fun k=>F k∨(w1.heap.size≤k∧k<T.heap.size)) (S.o.more J.o fun k b=>by
  rcases b with b|b
  ·exact⟨.inl b,Nat.lt_of_lt_of_le (S.o.flt b) J.o.size⟩
  ·exact⟨.inr b.1,b.2⟩) Ho.o)
 clear p0;go_wp2_with fail;refine HO.o.mono ?_;rintro e q ⟨l,rfl,hL,hs⟩;have t:=zh (And.intro hL hs);clear hL hs;have j:=zh ((t.o.2 _ (.inr ⟨Nat.le_refl _,zAA N.o⟩)).trans N.o);have X:=zh (L.o.keep2 fun k b=>t.o.2 k (.inr ⟨HE.o.2 k b,L.o.oLt k b⟩));have p0:q.cell? ⟨w1.heap.size,0,none⟩=some (.int .i64 (n:Int)):=zAB j.o rfl;have p1:q.cell? ⟨w1.heap.size,1,none⟩=some (.string fr):=zAB j.o rfl;have p2:q.cell? ⟨w1.heap.size,2,none⟩=some (.string tu):=zAB j.o rfl;have p3:q.cell? ⟨w1.heap.size,3,none⟩=some (.int .i64 E):=zAB j.o rfl;have p4:q.cell? ⟨w1.heap.size,4,none⟩=some (.int .i64 I):=zAB j.o rfl;go_wp2_with fail;obtain⟨Z,hZ⟩:∃Z,Z=zBR ⟨n,fr,tu,E,I⟩ eb l (.slice none 0 0) false:=⟨_,rfl⟩;have A:=zAC q Z;have C:=zAF q Z;have Q:=t.o.1.box Z;rw[hZ]at A C Q;have m:=zh (And.intro A (And.intro C Q));have P:=X.o.bel A;have K:=zh (zdata_calls (ev:=.slice none 0 0) (dead:=false) C P ak.o);have M:=zh P;clear P A C Q hZ p0 p1 p2 p3 p4;obtain⟨W6,R⟩:∃W6,W6=q.alloc (zBR ⟨n,fr,tu,E,I⟩ eb l (.slice none 0 0) false):=⟨_,rfl⟩;rw[←R]at m K M;refine((show Calls prog 33 #[.pointer (some ⟨q.heap.size,0,none⟩)] (q.alloc (zBR ⟨n,fr,tu,E,I⟩ eb l (.slice none 0 0) false)) _ from R▸K.o)).mono ?_;rintro e W7 ⟨v,rfl,hv,B,r⟩;rw[←R]at B r;obtain⟨pv,cv,rfl,-⟩:=zAN hv;have ah:=(r.block _ (zAA m.o.2.1)).trans m.o.2.1;have an:=zh (M.o.bel r);have aj:=zh (m.o.2.2.more r (F':=fun k=>((F k∨(w1.heap.size≤k∧k<T.heap.size))∨k=q.heap.size)∨(Value.slice pv (zBm ⟨n,fr,tu,E,I⟩ [0,0,0,0]).length cv).ownBlock=some k) fun k b=>b.imp id fun e=>⟨B k e,OwnR.lt hv e⟩);have O:=zh (lwrite_calls aj.o i hi (fun W _ hs=>has_own hv fun k b=>hs k (.inr b)) Hl.o);rw[Hw.o]at O;have HV:=zh (And.intro ah (And.intro hv (And.intro B r)));clear ah hv B r;obtain⟨nz,af⟩:∃nz,nz=(zBm ⟨n,fr,tu,E,I⟩ [0,0,0,0]).length:=⟨_,rfl⟩;rw[←af]at O ⊢;clear af;go_wp2_with fail;refine O.o.mono ?_;rintro e W8 ⟨rfl,ac,ag⟩;have a:=zh (And.intro ac ag);clear ac ag;go_wp2_with fail
 go_ret2
 have ap:=S.o.below.size;have ao:w1.heap.size<q.heap.size:=zAA j.o;have f:∀k,own k≠none→w1.heap.size≤k∧k<T.heap.size:=fun k b=>⟨HE.o.2 k b,L.o.oLt k b⟩;refine⟨q.heap.size,rfl,⟨eb,l,vm,sm,tm,am,own,a.o.1.less fun k b=>?_,(a.o.2 _ (.inl (.inr rfl))).trans HV.o.1,(M.o.bel HV.o.2.2.2).keep2 fun k b=>a.o.2 k (.inl (.inl (.inr (f k b)))),fun k b=>⟨?_,?_,by simp[Value.ownBlock]⟩,?_,fun k b=>(by cases b),(by omega),fun k b=>(by have:=(f k b).1;omega),fun k b=>(by cases b)⟩,fun k b=>?_⟩
 ·rcases b with b|rfl|b|b
  ·exact .inl (.inl (.inl b))
  ·exact .inl (.inr rfl)
  ·exact .inl (.inl (.inr (f k b)))
  ·cases b
 ·have:=S.o.flt b;omega
 ·refine Classical.byContradiction fun G=>?_;have h1:=(f k G).1;have h2:=S.o.flt b;omega
 ·refine Classical.byContradiction fun G=>?_;have:=X.o.oLt _ G;omega
 ·have h5:=t.o.1.flt (.inl b);exact(a.o.2 k (.inl (.inl (.inl b)))).trans ((HV.o.2.2.2.block k (Nat.lt_of_lt_of_le h5 m.o.1.size)).trans ((m.o.1.block k h5).trans ((t.o.2 k (.inl b)).trans (J.o.block k (S.o.flt b)))))
theorem zDb (w:World):Calls prog 86 #[.int .i64 0] w (NewR w [0]):=by
 obtain⟨A,h,s,t,y⟩:=info_parts (show(prog.info? 5).map (fun i=>(i.zero,i.size,i.bytes))=some (some (.int .u8 0),1,1) by kernel_rfl)
 go_enter func86,ntmps86
 go_wp2_with fail
 go_loopw [3,4] (fun n v wr=>n=.int .u64 0∧v=.slice none 0 0∧wr=w) (fun _ _ _=>0)
 case atStart=>exact⟨rfl,rfl,rfl⟩
 case round =>
  obtain⟨rfl,rfl,rfl⟩:=hrel;have q:=zDY wr 0;go_wp2_with (at_builtin;refine zAc _ rfl (.tmp 22) (.tmp 25) 39 rfl 5 A (.int .u8 0) 1 1 underlying39 h s t y rfl (by decide) (.slice none 0 0) 0 [] rfl (OwnR.nil _ _ _) (.slice (some ⟨wr.heap.size,0,none⟩) 1 1) 1 _ rfl q (zAZ _) (by decide) (by decide) ?_;clear q;intro B w3 d b c;have z:=zh (And.intro d (And.intro b c));clear d b c)
  go_ret;obtain⟨p,f,m⟩:=z.o;refine⟨B,rfl,p,fun j r=>?_,(zAC wr _).trans ((Chg.of_grown f).below (Below.size (zAC wr _)) fun k C e=>by cases e)⟩;rcases m with e|⟨g,e,a⟩
  ·rw[e]at r;cases r
  ·rw[e]at r;cases r;exact Nat.le_trans (Below.size (zAC wr _)) a
theorem app_new {w c w3:World}{v m:Value}(d:Below w.heap.size w c)(hn:∀j,v.ownBlock=some j→w.heap.size≤j)(f:c.grownBy w3 v.ownBlock)(b:m.ownBlock=v.ownBlock∨∃g,m.ownBlock=some g∧c.heap.size≤g):Below w.heap.size w w3∧∀j,m.ownBlock=some j→w.heap.size≤j:=by
 refine⟨d.trans ((Chg.of_grown f).below d.size fun k n e=>?_),fun j i=>?_⟩
 ·have:=hn k e.symm;omega
 ·rcases b with e|⟨g,e,f⟩
  ·exact hn j (by rw[←e];exact i)
  ·rw[e]at i;cases i;exact Nat.le_trans d.size f
def REconO:Obj:=.cells #[.slice none 0 0,.slice none 0 0,.slice none 0 0,.slice none 0 0] 89 (0,0)
theorem renc0_calls {w:World}{b:Nat}(h:w.heap[b]?=some REconO):Calls prog 34 #[.pointer (some ⟨b,0,none⟩)] w (NewR w [0,0,0,0]):=by
 obtain⟨N,M,z,a,A⟩:=info_parts (show(prog.info? 5).map (fun i=>(i.zero,i.size,i.bytes))=some (some (.int .u8 0),1,1) by kernel_rfl);have H:=zh h;clear h;have I:=zAB H.o (i:=0) (v:=.slice none 0 0) rfl
 go_enter func34,ntmps34
 go_wp2_with fail;refine(zDb _).mono ?_;rintro e w1 ⟨v,rfl,q,p,t⟩;obtain⟨Q,k1,rfl,-⟩:=zAN q;have H1:=zh (And.intro q (And.intro p t));clear q p t I;have I:=zAB ((H1.o.2.2.block _ (zAA H.o)).trans H.o) (i:=0) (v:=.slice none 0 0) rfl;have J:=zAB ((H1.o.2.2.block _ (zAA H.o)).trans H.o) (i:=1) (v:=.slice none 0 0) rfl;go_wp2_with fail
 go_loopw [3,4] (fun v i wr=>v=.slice Q 1 k1∧i=.int .i64 0∧wr=w1) (fun _ _ _=>0)
 case atStart=>exact⟨rfl,rfl,rfl⟩
 case round =>
  obtain⟨rfl,rfl,r⟩:=hrel;obtain rfl:w1=wr:=r.symm;go_wp2_with fail;refine(zDb _).mono ?_;rintro e Y ⟨v,rfl,q,p,t⟩;obtain⟨q1,U,rfl,-⟩:=zAN q;have m:=zCV H1.o.1 t;have n:=H1.o.2.2.trans (t.mono H1.o.2.2.size);have k:=q.has;clear q p t J I;go_wp2_with (at_builtin;refine zAc _ rfl (.tmp 52) (.tmp 58) 39 rfl 5 N (.int .u8 0) 1 1 underlying39 M z a A rfl (by decide) (.slice Q 1 k1) 1 _ rfl m (.slice q1 1 U) 1 _ rfl k (zAZ _) (by decide) (by decide) ?_;intro R w3 c d f;have s:=zh (And.intro (app_new n H1.o.2.1 d f) c);obtain⟨F,k2,rfl⟩:=OwnR.shape c;have y:=zW (zA4 w3 5 (.slice F 2 k2) [0,0]∧(∀j,(Value.slice F 2 k2).ownBlock=some j→w.heap.size≤j)∧Below w.heap.size w w3) (⟨s.o.2,s.o.1.2,s.o.1.1⟩);clear c d f m k n s)
  obtain⟨S,C⟩:∃x,x=w3:=⟨w3,rfl⟩;rw[←C]at y ⊢;clear C;have J:=zAB ((y.o.2.2.block _ (zAA H.o)).trans H.o) (i:=1) (v:=.slice none 0 0) rfl;have L:=zAB ((y.o.2.2.block _ (zAA H.o)).trans H.o) (i:=2) (v:=.slice none 0 0) rfl;go_wp2_with fail
  go_loopw [3,5] (fun v i wr=>v=.slice F 2 k2∧i=.int .i64 0∧wr=S) (fun _ _ _=>0)
  case atStart=>exact⟨rfl,rfl,rfl⟩
  case round =>
   obtain⟨rfl,rfl,r⟩:=hrel;obtain rfl:S=wr:=r.symm;go_wp2_with fail;refine(zDb _).mono ?_;rintro e Z ⟨v,rfl,q,p,t⟩;obtain⟨q2,V,rfl,-⟩:=zAN q;have m:=zCV y.o.1 t;have n:=y.o.2.2.trans (t.mono y.o.2.2.size);have k:=q.has;clear q p t L J;go_wp2_with (at_builtin;refine zAc _ rfl (.tmp 105) (.tmp 111) 39 rfl 5 N (.int .u8 0) 1 1 underlying39 M z a A rfl (by decide) (.slice F 2 k2) 2 _ rfl m (.slice q2 1 V) 1 _ rfl k (zAZ _) (by decide) (by decide) ?_;intro R w3 c d f;have s:=zh (And.intro (app_new n y.o.2.1 d f) c);obtain⟨G,k3,rfl⟩:=OwnR.shape c;have H3:=zW (zA4 w3 5 (.slice G 3 k3) [0,0,0]∧(∀j,(Value.slice G 3 k3).ownBlock=some j→w.heap.size≤j)∧Below w.heap.size w w3) (⟨s.o.2,s.o.1.2,s.o.1.1⟩);clear c d f m k n s)
   obtain⟨w3,D⟩:∃x,x=w3:=⟨w3,rfl⟩;rw[←D]at H3 ⊢;clear D;have L:=zAB ((H3.o.2.2.block _ (zAA H.o)).trans H.o) (i:=2) (v:=.slice none 0 0) rfl;have P:=zAB ((H3.o.2.2.block _ (zAA H.o)).trans H.o) (i:=3) (v:=.slice none 0 0) rfl;go_wp2_with fail
   go_loopw [3,8] (fun v i wr=>v=.slice G 3 k3∧i=.int .i64 0∧wr=w3) (fun _ _ _=>0)
   case atStart=>exact⟨rfl,rfl,rfl⟩
   case round =>
    obtain⟨rfl,rfl,r⟩:=hrel;obtain rfl:w3=wr:=r.symm;go_wp2_with fail;refine(zDb _).mono ?_;rintro e K ⟨v,rfl,q,p,t⟩;obtain⟨X,W,rfl,-⟩:=zAN q;have m:=zCV H3.o.1 t;have n:=H3.o.2.2.trans (t.mono H3.o.2.2.size);have k:=q.has;clear q p t P L;go_wp2_with (at_builtin;refine zAc _ rfl (.tmp 170) (.tmp 176) 39 rfl 5 N (.int .u8 0) 1 1 underlying39 M z a A rfl (by decide) (.slice G 3 k3) 3 _ rfl m (.slice X 1 W) 1 _ rfl k (zAZ _) (by decide) (by decide) ?_;intro R w3 c d f;have s:=zh (And.intro (app_new n H3.o.2.1 d f) c);obtain⟨O,k4,rfl⟩:=OwnR.shape c;have B:=zW (zA4 w3 5 (.slice O 4 k4) [0,0,0,0]∧(∀j,(Value.slice O 4 k4).ownBlock=some j→w.heap.size≤j)∧Below w.heap.size w w3) (⟨s.o.2,s.o.1.2,s.o.1.1⟩);clear c d f m k n s)
    obtain⟨T,E⟩:∃x,x=w3:=⟨w3,rfl⟩;rw[←E]at B ⊢;clear E;have P:=zAB ((B.o.2.2.block _ (zAA H.o)).trans H.o) (i:=3) (v:=.slice none 0 0) rfl;go_wp2_with fail
    go_loopw [3,12] (fun v i wr=>v=.slice O 4 k4∧i=.int .i64 0∧wr=T) (fun _ _ _=>0)
    case atStart=>exact⟨rfl,rfl,rfl⟩
    case round =>
     obtain⟨rfl,rfl,r⟩:=hrel;obtain rfl:T=wr:=r.symm;go_wp2_with fail;go_ret;exact⟨_,rfl,B.o.1,B.o.2.1,B.o.2.2⟩
def AtE (E:zBu)(n:Bs)(r:VRep):zBu:=if zBS n E.vs=none then {E with vs:=zDv n r E.vs}else E
def AtR (w:World)(c vm d f b:Nat)(E:zBu)(own:Nat→Option (Nat×Bs))(n:Bs)(e:Ending)(w':World):Prop :=
 ∃r own',e=.returned (.pointer (some ⟨r.vb,0,none⟩))∧zBS n (AtE E n r).vs=some r∧(zBS n E.vs=none→r.V=[])∧zAI w' c vm d f b (AtE E n r) own'∧(∀k,k<w.heap.size→own' k=own k)∧Chg (fun k=>own k≠none) w w'
theorem vs_look {w:World}{vm:Nat}{vs:List (Bs×VRep)}(h:VsIs w vm vs)(b:ByteArray)(d:b.size≤maxLen) :
  (Instr.lookup 152 (.map (some vm)) (.string b) false).run prog w=.ok (match zBS (nm b) vs with|some r=>.pointer (some ⟨r.vb,0,none⟩)|none=>.pointer none) w:=by
 have c:=zAd.look h zD6 underlying152 (by kernel_rfl) (a:=nm b) (by show(nm b).length≤maxLen;rw[zDk];exact d);rw[show(strK (P:=prog) underlying9).v (nm b)=.string b from strK_v _ b,k_mp_get]at c;rw[c];cases zBS (nm b) vs<;>rfl
theorem vs_store {w:World}{vm:Nat}{vs:List (Bs×VRep)}(h:VsIs w vm vs)(b:ByteArray)(i:b.size≤maxLen)(hn:vs.length<maxLen)(r:VRep) :
  ∃w',(Instr.mapUpdate 152 (.map (some vm)) (.string b) (.pointer (some ⟨r.vb,0,none⟩))).run prog w=.ok () w'∧VsIs w' vm (zDv (nm b) r vs)∧Chg (fun k=>k=vm) w w':=by
 obtain⟨w',c,d,f⟩:=zAd.store h zD6 underlying152 (by unfold kmp;rw[List.length_map];exact hn) (a:=nm b) (by show(nm b).length≤maxLen;rw[zDk];exact i) (x:=r.vb) trivial;rw[show(strK (P:=prog) underlying9).v (nm b)=.string b from strK_v _ b]at c;refine⟨w',c,?_,zCr f⟩;unfold VsIs;rw[k_mp_put];exact d
theorem zCa {w:World}{q vm D F B:Nat}{E:zBu}{own:Nat→Option (Nat×Bs)}(h:zAI w q vm D F B E own)(b:ByteArray)(i:b.size≤maxLen)(hn:E.vs.length<maxLen) :
  Calls prog 157 #[.pointer (some ⟨q,0,none⟩),.string b] w (AtR w q vm D F B E own (nm b)):=by
 have c:=vs_look h.vaults b i;have P:w.cell? ⟨q,0,none⟩=some (.map (some vm)):=zAB h.cells rfl;have H:=zh h;have A:=zh (And.intro i hn);clear h i hn;cases m:zBS (nm b) E.vs with
 | some r =>
  rw[m]at c;have c:(Instr.lookup 152 (.map (some vm)) (.string b) false).run prog w=.ok (.pointer (some ⟨r.vb,0,none⟩)) w:=c;have p:=zh m;clear m
  go_enter func157,ntmps157
  go_wp2_with fail;go_ret;have e:AtE E (nm b) r=E:=if_neg (by rw[p.o];simp);exact⟨r,own,rfl,by rw[e];exact p.o,(by rw[p.o];intro L;cases L),by rw[e];exact H.o,fun _ _=>rfl,Chg.refl _ _⟩
 | none =>
  rw[m]at c;have c:(Instr.lookup 152 (.map (some vm)) (.string b) false).run prog w=.ok (.pointer none) w:=c;have p:=zh m;have I:=zh (fun W=>vaultnew_calls W);clear m
  go_enter func157,ntmps157
  go_wp2_with fail;refine(I.o _).mono ?_;rintro e a ⟨vb,n,bb,rfl,t,v,j⟩;have s:=H.o.keep (fun k i=>j.block k (H.o.oLt k i)) j.size;have Q:a.cell? ⟨q,0,none⟩=some (.map (some vm)):=zAB s.cells rfl;obtain⟨w3,N,f,d⟩:=vs_store (w:=a) s.vaults b A.o.1 A.o.2 ⟨vb,n,bb,[]⟩;have G:=zh (And.intro s (And.intro t (And.intro v (And.intro j (And.intro f d)))));clear s t v j f d;go_wp2_with fail;go_ret;obtain⟨s,t,v,j,f,d⟩:=G.o;have O:=H.o.oLt vm (by rw[H.o.oV];simp);have C:Chg (fun k=>k=vm) w w3:=((Chg.of_below j).mono fun _ _ e=>e.elim:Chg (fun k=>k=vm) w a).trans d fun _ _ e=>e;have z:zAt w3 vb n bb []:=t.keep fun k i=>d.block k (t.lt i) (by have:=v k i;omega);obtain⟨y,J,M⟩:=H.o.fresh (r:=⟨vb,n,bb,[]⟩) z f v C;have e:AtE E (nm b) ⟨vb,n,bb,[]⟩={E with vs:=zDv (nm b) ⟨vb,n,bb,[]⟩ E.vs}:=if_pos p.o;refine⟨⟨vb,n,bb,[]⟩,y,rfl,?_,fun _=>rfl,by rw[e];exact J,M,C.mono fun k _ e=>by rw[e,H.o.oV];simp⟩;rw[e];exact zEB H.o.srt _ _
def zDe (E:zBu)(n:Bs):zBu:=match zBS n E.vs with
 | some r=>if r.V.isEmpty then {E with vs:=kdel n E.vs}else E
 | none=>E
def EcoTold (w:World)(d vm f i c:Nat)(own:Nat→Option (Nat×Bs))(b:zBu)(w':World):Prop:=zAI w' d vm f i c b own∧Chg (fun k=>own k≠none) w w'
theorem vs_drop {w:World}{vm:Nat}{vs:List (Bs×VRep)}(h:VsIs w vm vs)(b:ByteArray)(i:b.size≤maxLen) :
  ∃w',(Builtin.delete_ #[152,9] 0 #[.map (some vm),.string b]).run prog w=.ok (.tuple #[]) w'∧VsIs w' vm (kdel (nm b) vs)∧Chg (fun k=>k=vm) w w':=by
 obtain⟨w',c,d,f⟩:=zAd.drop h zD6 underlying152 (a:=nm b) (by show(nm b).length≤maxLen;rw[zDk];exact i) 0;rw[show(strK (P:=prog) underlying9).v (nm b)=.string b from strK_v _ b]at c;refine⟨w',c,?_,zCr f⟩;unfold VsIs;rw[k_mp_del];exact d
theorem zD0 {w:World}{t vm A B a:Nat}{E:zBu}{own:Nat→Option (Nat×Bs)}(h:zAI w t vm A B a E own)(b:ByteArray)(j:b.size≤maxLen)(hn:∀p∈E.vs,p.2.V.length≤1099511627776) :
  Calls prog 107 #[.pointer (some ⟨t,0,none⟩),.string b] w fun e w'=>e=.returned (.tuple #[])∧EcoTold w t vm A B a own (zDe E (nm b)) w':=by
 have c:=vs_look h.vaults b j;have G:w.cell? ⟨t,0,none⟩=some (.map (some vm)):=zAB h.cells rfl;have H:=zh h;have D:=zh j;cases f:zBS (nm b) E.vs with
 | none =>
  rw[f]at c;have c:(Instr.lookup 152 (.map (some vm)) (.string b) false).run prog w=.ok (.pointer none) w:=c;have s:=zh (show zDe E (nm b)=E by unfold zDe;rw[f]);clear f h j hn
  go_enter func107,ntmps107
  go_wp2_with fail
  go_end0
  refine⟨rfl,?_⟩;rw[s.o];exact⟨H.o,Chg.refl _ _⟩
 | some r =>
  rw[f]at c;have c:(Instr.lookup 152 (.map (some vm)) (.string b) false).run prog w=.ok (.pointer (some ⟨r.vb,0,none⟩)) w:=c;have v:=zh (isnone_calls (h.each _ (zA0 f)) (hn _ (zA0 f)));cases q:r.V.isEmpty with
  | false =>
   rw[q]at v;have s:=zh (show zDe E (nm b)=E by unfold zDe;rw[f];simp[q]);clear f h j hn q
   go_enter func107,ntmps107
   go_wp2_with fail;refine v.o.mono ?_;rintro e z ⟨rfl,i⟩;have y:=zh i;clear i;go_wp2_with fail
   go_end0
   refine⟨rfl,?_⟩;rw[s.o];exact⟨H.o.keep (fun k j=>y.o.block k (H.o.oLt k j)) y.o.size,(Chg.of_below y.o).mono fun _ _ e=>e.elim⟩
  | true =>
   rw[q]at v;have s:=zh (show zDe E (nm b)={E with vs:=kdel (nm b) E.vs} by unfold zDe;rw[f];simp[q]);clear f h j hn q
   go_enter func107,ntmps107
   go_wp2_with fail;refine v.o.mono ?_;rintro e z ⟨rfl,i⟩;have n:=H.o.keep (fun k j=>i.block k (H.o.oLt k j)) i.size;have I:z.cell? ⟨t,0,none⟩=some (.map (some vm)):=zAB n.cells rfl;obtain⟨w3,F,m,d⟩:=vs_drop n.vaults b D.o;have C:=zh (And.intro n (And.intro i (And.intro m d)));clear n i m d;go_wp2_with fail
   go_end0
   obtain⟨n,i,m,d⟩:=C.o;refine⟨rfl,?_⟩;rw[s.o];exact⟨n.less m d,(((Chg.of_below i).mono fun _ _ e=>e.elim:Chg (fun k=>k=vm) w z).trans d fun _ _ e=>e).mono fun k _ e=>by rw[e,H.o.oV];simp⟩
theorem put6 {w:World}{b:Nat}{m n o p q r:Value}{t:TypeId}(h:w.heap[b]?=some (.cells #[m,n,o,p,q,r] t (0,0)))(c d f i j k:Value) :
  ((((((w.setCell ⟨b,0,none⟩ c).setCell ⟨b,1,none⟩ d).setCell ⟨b,2,none⟩ f).setCell ⟨b,3,none⟩ i).setCell ⟨b,4,none⟩ j).setCell ⟨b,5,none⟩ k).heap[b]?=some (.cells #[c,d,f,i,j,k] t (0,0)):=by
 have s:=zAH h 0 c;have v:=zAH s 1 d;have y:=zAH v 2 f;have z:=zAH y 3 i;have a:=zAH z 4 j;have A:=zAH a 5 k;simpa using A
theorem chg6 (w:World)(b:Nat)(c d f i j m:Value):Chg (fun k=>k=b) w ((((((w.setCell ⟨b,0,none⟩ c).setCell ⟨b,1,none⟩ d).setCell ⟨b,2,none⟩ f).setCell ⟨b,3,none⟩ i).setCell ⟨b,4,none⟩ j).setCell ⟨b,5,none⟩ m) :=
 ((chg4 w b c d f i).trans (Chg.setCell _ ⟨b,4,none⟩ j) fun _ _ e=>e).trans (Chg.setCell _ ⟨b,5,none⟩ m) fun _ _ e=>e
def MintR (w:World)(c vm d f b:Nat)(E:zBu)(own:Nat→Option (Nat×Bs))(o:OpM)(e:Ending)(w':World):Prop :=
 ∃r own',e=.returned (.agg #[.int .i64 ((putM r.V o.atW (It.one o.item o.count)).2:Int),.int .i64 0,.int .i64 0,.int .i64 0,.int .i64 0,.int .i64 0]) ∧
  zBS (nm o.atK) (AtE E (nm o.atK) r).vs=some r∧(zBS (nm o.atK) E.vs=none→r.V=[]) ∧
  zAI w' c vm d f b {AtE E (nm o.atK) r with vs:=zDv (nm o.atK) {r with V:=(putM r.V o.atW (It.one o.item o.count)).1} (AtE E (nm o.atK) r).vs} own'∧(∀k,k<w.heap.size→own' k=own k)∧Chg (fun k=>own k≠none) w w'
theorem mint_calls {w:World}{eb vm sm tm am:Nat}{E:zBu}{own:Nat→Option (Nat×Bs)}(h:zAI w eb vm sm tm am E own)(o:OpM)(ho:o.wf)(hn:E.vs.length<maxLen)
  (ab:∀r,zBS (nm o.atK) E.vs=some r→r.V.length<maxLen∧(zAb r.V o.atW).is=true) :
  Calls prog 100 #[.pointer (some ⟨eb,0,none⟩),o.v] w (MintR w eb vm sm tm am E own o):=by
 have Hi:=zh (fun W=>zEL W o ho);have Ha:=zh (fun(W:World) (hW:zAI W eb vm sm tm am E own)=>zCa hW o.atK ho.2.1.1 hn);have H:=zh h;have Hp:=zh ab;have Hw:=zh ho.2.1.2.1;clear h ab hn ho;have e0:o.v=.agg #[.int .i64 o.kind,.int .i64 o.client,.int .i64 o.seq,.string o.atK,.string o.atW,.string o.toK,.string o.toW,.int .i64 o.item,.int .i64 o.count,.int .i64 o.price,.bool o.buy,.int .i64 o.id]:=rfl;have ad:=zh (fun x y:Obj=>(zAC w x).trans ((zAC (w.alloc x) y).mono (zAC w x).size));rw[e0]at Hi ⊢
 go_enter func100,ntmps100
 go_wp2_with fail;obtain⟨w1,A⟩:∃w1,w1=(w.alloc (.cells #[.int .i64 o.kind,.int .i64 o.client,.int .i64 o.seq,.string o.atK,.string o.atW,.string o.toK,.string o.toW,.int .i64 o.item,.int .i64 o.count,.int .i64 o.price,.bool o.buy,.int .i64 o.id] 25 (0,0))).alloc (.cells #[.int .i64 0,.int .i64 0,.int .i64 0,.int .i64 0,.int .i64 0,.int .i64 0] 48 (0,0)):=⟨_,rfl⟩;have n0:w1.heap[w.heap.size]?=some (.cells #[.int .i64 o.kind,.int .i64 o.client,.int .i64 o.seq,.string o.atK,.string o.atW,.string o.toK,.string o.toW,.int .i64 o.item,.int .i64 o.count,.int .i64 o.price,.bool o.buy,.int .i64 o.id] 25 (0,0)):=by rw[A];exact zAW _ (zAF _ _)
 have n1:w1.heap[w.heap.size+1]?=some (.cells #[.int .i64 0,.int .i64 0,.int .i64 0,.int .i64 0,.int .i64 0,.int .i64 0] 48 (0,0)):=by rw[A];exact zAn _ _ _
 have C:=zW (Below w.heap.size w w1.drew) ((A▸ad.o _ _:Below w.heap.size w w1).trans ⟨rfl,rfl,rfl,Nat.le_refl _,fun _ _=>rfl⟩);rw[←A];clear A;refine ost (fun w':World=>w'.heap[w.heap.size]?=some (.cells #[.int .i64 o.kind,.int .i64 o.client,.int .i64 o.seq,.string o.atK,.string o.atW,.string o.toK,.string o.toW,.int .i64 o.item,.int .i64 o.count,.int .i64 o.price,.bool o.buy,.int .i64 o.id] 25 (0,0))) 13 n0 fun f=>?_;have HZ:=zW (w1.drew.heap[w.heap.size+1]?=some (.cells #[.int .i64 0,.int .i64 0,.int .i64 0,.int .i64 0,.int .i64 0,.int .i64 0] 48 (0,0))) n1;clear n0 n1;generalize w1.drew=W2 at *;refine Pl [0,1,2,3,5,6,7,8] ?_
 iterate 8 (refine Pd rfl (by intro w' m;have p0:=cell0 m;have p1:=zCF m;have p2:=zCG m;have p3:=zCZ m;have p4:=zDL m;have p5:=cell5 m;have p6:=zAB m (i:=6) rfl;have p7:=zAB m (i:=7) rfl;have p8:=zAB m (i:=8) rfl;have p9:=zAB m (i:=9) rfl;have ae:=zAB m (i:=10) rfl;have af:=zAB m (i:=11) rfl;go_simp;try with_reducible rfl) ?_;simp only[uZ])
 refine Pn ?_;refine oon 4 rfl fun K s=>?_;go_wp2_with fail;have J:=H.o.keep (fun k B=>C.o.block k (H.o.oLt k B)) C.o.size;refine(Ha.o _ J).mono ?_;rintro e w3 ⟨r,O,rfl,hg,ac,h3,I,F⟩;have t:∀k,w.heap.size≤k→¬own k≠none:=fun k B Z=>by have:=H.o.oLt _ Z;omega
 have n:=zh ((F.block _ (zAA f) (t _ (Nat.le_refl _))).trans f);have S:=zh ((F.block _ (zAA HZ.o) (t _ (by omega))).trans HZ.o);have X:Chg (fun k=>own k≠none) w w3:=((Chg.of_below C.o).mono fun _ _ e=>e.elim:Chg (fun k=>own k≠none) w W2).trans F fun _ _ e=>e;have N:∀k,k<w.heap.size→O k=own k:=fun k B=>I k (Nat.lt_of_lt_of_le B C.o.size);have HO:=zh (And.intro ((I _ (zAA f)).trans (Classical.byContradiction fun Z=>t _ (Nat.le_refl _) Z)) ((I _ (zAA HZ.o)).trans (Classical.byContradiction fun Z=>t _ (Nat.le_succ _) Z)));have q:=zh (And.intro hg (And.intro ac (And.intro h3 (And.intro N X))));clear hg ac h3 I N F X J t f;go_wp2_with fail;refine s.o _ _ n.o fun f=>?_;clear s n
 try simp only[uZ]
 refine oon 9 rfl fun K s=>?_;go_wp2_with fail;refine(Hi.o _).mono ?_;rintro e w4 ⟨he,p⟩;rw[show(It.one o.item o.count).v=.agg #[.int .i64 (It.one o.item o.count).a,.int .i64 (It.one o.item o.count).b,.int .i64 (It.one o.item o.count).c,.int .i64 (It.one o.item o.count).d]from rfl]at he;subst he;have n:=zh ((p.block _ (zAA f)).trans f);have T:=zh ((p.block _ (zAA S.o)).trans S.o);have D:=zh (And.intro (q.o.2.2.1.keep (fun k B=>p.block k (q.o.2.2.1.oLt k B)) p.size) (q.o.2.2.2.2.trans ((Chg.of_below p).mono fun _ _ e=>e.elim:Chg (fun k=>own k≠none) w3 w4) fun _ _ e=>e));clear p f;go_wp2_with fail;refine s.o _ _ n.o fun f=>?_;clear s n
 try simp only[uZ]
 refine oon 10 rfl fun K s=>?_;have R:r.V.length<maxLen∧(zAb r.V o.atW).is=true:=by
  cases Y:zBS (nm o.atK) E.vs with
  | none =>
   rw[q.o.2.1 Y];exact⟨by decide,rfl⟩
  | some r' =>
   have e:AtE E (nm o.atK) r=E:=if_neg (by rw[Y];simp);have h0:=q.o.1;rw[e]at h0;exact Hp.o r h0
 have U:=zh (put_calls (D.o.1.each _ (zA0 q.o.1)) o.atW Hw.o (It.one o.item o.count) R.1 R.2);clear R;go_wp2_with fail;refine U.o.mono ?_;rintro e w5 ⟨rfl,z⟩;have G:=D.o.1.oP _ (zA0 q.o.1);have L:w.heap.size≠r.pm:=fun e=>by
  have J:=G.2.1;rw[←e,HO.o.1]at J;cases J
 have M:w.heap.size+1≠r.pm:=fun e=>by
  have J:=G.2.1;rw[←e,HO.o.2]at J;cases J
 have n:=zh ((z.2.block _ (zAA f) L).trans f);have j:=zh ((z.2.block _ (zAA T.o) M).trans T.o);have P:=zh (And.intro (D.o.1.vault q.o.1 z) (D.o.2.trans z.2 fun i hi e=>by
  rw[←q.o.2.2.2.1 i hi,e,G.2.1];simp))
 clear z G L M f;go_wp2_with fail;refine s.o _ _ n.o fun f=>?_;clear s n
 try simp only[uZ]
 refine Pl [11] ?_
 iterate 1 (refine Pc rfl ?_;simp only[uZ])
 refine Pn ?_;refine oon 12 rfl fun K s=>?_;have z0:=cell0 j.o;have z1:=zCF j.o;have z2:=zCG j.o;have z3:=zCZ j.o;have z4:=zDL j.o;have z5:=cell5 j.o;have f0:=zAE j.o 0;have f1:=zAE j.o 1;have f2:=zAE j.o 2;have f3:=zAE j.o 3;have f4:=zAE j.o 4;have f5:=zAE j.o 5;have Hh:=zh f;clear f;go_wp2_with fail;have Q:=chg6 w5 (w.heap.size+1) (.int .i64 ((putM r.V o.atW (It.one o.item o.count)).2:Int)) (.int .i64 0) (.int .i64 0) (.int .i64 0) (.int .i64 0) (.int .i64 0);have aa:=put6 j.o (.int .i64 ((putM r.V o.atW (It.one o.item o.count)).2:Int)) (.int .i64 0) (.int .i64 0) (.int .i64 0) (.int .i64 0) (.int .i64 0);have HF:=zh (And.intro Q aa);refine s.o _ _ ((Q.block _ (zAA Hh.o) (by omega)).trans Hh.o) fun f=>?_;clear s f Q aa
 try simp only[uZ]
 refine odn ?_;go_wp2_with fail;refine bodyPost_ret (results_cell_row rfl _ _ (w.heap.size+1) _ _ (0,0) _ rfl HF.o.2 underlying48 rfl (by kernel_rfl)) rfl ?_;refine⟨r,O,rfl,q.o.1,q.o.2.1,P.o.1.keep (fun k B=>HF.o.1.block k (P.o.1.oLt k B) fun e=>?_) HF.o.1.size,q.o.2.2.2.1,P.o.2.trans HF.o.1 fun i hi e=>by omega⟩;rw[e]at B;exact B HO.o.2
theorem names_1 (o:OpM)(h:o.kind=1∨o.kind=6):o.names=o.cntM:=by
 unfold OpM.names;rw[if_pos h,Bool.eq_iff_iff];simp[OpM.cntM,OpM.noTo,OpM.same,OpM.rst,OpM.zero,and_assoc]
theorem names_2 (o:OpM)(h:o.kind=2):o.names=o.sendM:=by
 unfold OpM.names;rw[if_neg (by omega),if_pos h,Bool.eq_iff_iff];simp[OpM.sendM,OpM.cntM,OpM.cnt,OpM.noT,OpM.same,OpM.rst,OpM.zero,and_assoc];intros;exact⟨fun⟨a,b,c,d,r⟩=>⟨decide_eq_true a,decide_eq_true b,decide_eq_true c,decide_eq_true d,r⟩,fun⟨a,b,c,d,r⟩=>⟨of_decide_eq_true a,of_decide_eq_true b,of_decide_eq_true c,of_decide_eq_true d,r⟩⟩
theorem names_3 (o:OpM)(h:o.kind=3):o.names=o.ordM:=by
 unfold OpM.names;rw[if_neg (by omega),if_neg (by omega),if_pos h,Bool.eq_iff_iff];simp[OpM.ordM,OpM.cntM,OpM.cnt,OpM.noP,OpM.noTo,OpM.same,OpM.rst,OpM.zero,and_assoc];intros;exact⟨fun⟨a,b,c,d,r⟩=>⟨decide_eq_true a,decide_eq_true b,decide_eq_true c,decide_eq_true d,r⟩,fun⟨a,b,c,d,r⟩=>⟨of_decide_eq_true a,of_decide_eq_true b,of_decide_eq_true c,of_decide_eq_true d,r⟩⟩
theorem names_4 (o:OpM)(h:o.kind=4):o.names=o.idM:=by
 unfold OpM.names;rw[if_neg (by omega),if_neg (by omega),if_neg (by omega),if_pos h,Bool.eq_iff_iff];simp[OpM.idM,OpM.noTo,OpM.same,OpM.rst,OpM.zero,and_assoc]
theorem names_5 (o:OpM)(h:o.kind=5∨o.kind=7):o.names=o.bareM:=by
 unfold OpM.names;rw[if_neg (by omega),if_neg (by omega),if_neg (by omega),if_neg (by omega),if_pos h,Bool.eq_iff_iff];simp[OpM.bareM,OpM.bare,OpM.noTo,OpM.same,OpM.rst,OpM.zero,and_assoc]
theorem names_no (o:OpM)(h:o.kind<1∨8≤o.kind):o.names=false:=by
 unfold OpM.names;rw[if_neg (by omega),if_neg (by omega),if_neg (by omega),if_neg (by omega),if_neg (by omega)]
theorem may_no (o:OpM)(h:o.kind<1∨8≤o.kind):o.may=false:=by
 unfold OpM.may;rw[names_no o h,Bool.and_false]
def zAu:Obj:=(.cells #[.nilFunc,.func (.func 91) #[] #[],.func (.func 92) #[] #[],.func (.func 93) #[] #[],.func (.func 94) #[] #[],.func (.func 95) #[] #[],.func (.func 91) #[] #[],.func (.func 95) #[] #[]] 161 (0,0))
theorem fn_eqd (w:World)(d:Nat):(Op.equalIn (d+1) 159 .nilFunc .nilFunc).run prog w=.ok true w∧∀f:Fn,(Op.equalIn (d+1) 159 (.func f #[] #[]) .nilFunc).run prog w=.ok false w:=by
 constructor
 ·rw[Op.equalIn];simp only[go_sem];simp
 ·intro f;rw[Op.equalIn];simp only[go_sem];simp
theorem fn_eq0 (w:World):(binOp .eql 159 .nilFunc .nilFunc).run prog w=.ok (.bool true) w:=by
 show(Op.equal 159 .nilFunc .nilFunc >>= fun b=>pure (.bool b):Sem Value).run prog w=_
 rw[Sem.run_bind,show Op.equal 159 .nilFunc .nilFunc=Op.equalIn (9999+1) 159 .nilFunc .nilFunc from rfl,(fn_eqd w 9999).1];rfl
theorem fn_eqn (w:World)(f:Fn):(binOp .eql 159 (.func f #[] #[]) .nilFunc).run prog w=.ok (.bool false) w:=by
 show(Op.equal 159 (.func f #[] #[]) .nilFunc >>= fun b=>pure (.bool b):Sem Value).run prog w=_
 rw[Sem.run_bind,show Op.equal 159 (.func f #[] #[]) .nilFunc=Op.equalIn (9999+1) 159 (.func f #[] #[]) .nilFunc from rfl,(fn_eqd w 9999).2];rfl
theorem opmayno_calls (w:World)(o:OpM)(c:o.kind<1∨8≤o.kind) :
  Calls prog 39 #[o.v] w (RetB o.may w):=by
 have d:=zh (fun x y:Obj=>(zAC w x).trans ((zAC (w.alloc x) y).mono (zAC w x).size));have b:=zh (may_no o c);have f:o.v=.agg #[.int .i64 o.kind,.int .i64 o.client,.int .i64 o.seq,.string o.atK,.string o.atW,.string o.toK,.string o.toW,.int .i64 o.item,.int .i64 o.count,.int .i64 o.price,.bool o.buy,.int .i64 o.id]:=rfl;rw[f];rcases(by omega:o.kind<0∨8≤o.kind∨o.kind=0)with c|c|c
 ·go_enter func39,ntmps39
  go_wp2_with fail;go_ret;exact⟨by rw[b.o];rfl,d.o _ _⟩
 ·go_enter func39,ntmps39
  go_wp2_with fail;go_ret;exact⟨by rw[b.o];rfl,d.o _ _⟩
 ·rw[c];have i:=fun W=>fn_eq0 W
  go_enter func39,ntmps39
  go_wp2_with fail;go_ret;exact⟨by rw[b.o];rfl,d.o _ _⟩
end Go.Proofs.YtmcanphlgkolcaaGreatDoor
namespace Go.Sat
open Go Go.RowKit
theorem range_of {w:World}{b:Nat}{L:List Value}{t:TypeId}{fr:Nat×Nat}(h:w.heap[b]?=some (.cells L.toArray t fr)):w.rangeAt b 0 L:=fun j v c=>by
 rw[Nat.zero_add];exact zAB h (by simpa using c)
theorem zDP {P:Program}{w:World}{b:Nat}{t ty:TypeId}{c:Array Value}{L:List Value}(h:w.heap[b]?=some (.cells c t (0,0)))(j:c.size=L.length)(i:(P.info? ty).map (·.size)=some L.length)(f:∀v∈L,v.oneCell'=true) :
  ∃w',(storeVar ty ⟨b,0,none⟩ (.agg L.toArray)).run P w=.ok () w'∧w'.heap[b]?=some (.cells L.toArray t (0,0))∧Chg (fun k=>k=b) w w':=by
 refine⟨w.setRow b L.toArray,run_storeVar_row w b t ty c L.toArray h (by simpa using i) (by simpa using j) (all_oneCell_toArray f),?_,rfl,rfl,rfl,?_,fun k m d=>?_⟩
 ·simp only[World.setRow];rw[Array.getElem?_modify,if_pos rfl,h];rfl
 ·simp[World.setRow]
 ·simp only[World.setRow];rw[Array.getElem?_modify,if_neg fun e=>d e.symm]
section
variable {P:Program} {ops:Array Oper} {rest:List Oper} {op:Oper} {a:Act} {w:World} {Q:Exit→Act→World→Prop}
theorem zA1 (n:Region.wanted op (yielded ops a.tmps)=true)(ty:TypeId)(x:Operand)(k:op.op=.load ty x)(b:Nat)(o:a.eval x=.pointer (some ⟨b,0,none⟩)){L:List Value}{t:TypeId}{fr:Nat×Nat}(f:w.heap[b]?=some (.cells L.toArray t fr)){d:TypeDesc}
  (m:P.underlying ty=some d) (i:d.isRow=true) (j:(P.info? ty).map (·.size)=some L.length) (h:wpList P ops Q rest (a.put op.dst (.agg L.toArray)) w):wpList P ops Q (op::rest) a w :=
 BigFrame.wpList_want n fun _ c=>wp_load_mid ty x k b 0 o L d (range_of f) m i j (c _ _ h)
theorem zAg (r:Region.wanted op (yielded ops a.tmps)=true)(ty:TypeId)(x y:Operand)(p:op.op=.store ty x y)(b:Nat)(s:a.eval x=.pointer (some ⟨b,0,none⟩)){L:List Value}(z:a.eval y=.agg L.toArray){c:Array Value}{t:TypeId}(m:w.heap[b]?=some (.cells c t (0,0)))
  (o:c.size=L.length) (n:(P.info? ty).map (·.size)=some L.length) (d:∀v∈L,v.oneCell'=true) (h:∀w',w'.heap[b]?=some (.cells L.toArray t (0,0))→Chg (fun k=>k=b) w w'→wpList P ops Q rest (a.put op.dst undef) w'):wpList P ops Q (op::rest) a w:=by
 obtain⟨w',q,f,i⟩:=zDP (P:=P) (ty:=ty) m o n d;refine BigFrame.wpList_want r fun K j=>?_;unfold Oper.wp execOp;simp only[p,s,z,Instr.storeAt,Instr.sureAddr,Sem.run_bind,Sem.run_pure,Result.andThen_ok,q];exact j _ _ (h w' f i)
theorem zAe (d:Region.wanted op (yielded ops a.tmps)=true)(ty:TypeId)(c:op.op=.alloc ty){z:Value}(f:(zeroValue ty).run P w=.ok z w)(_:z.cells.size≠0)
  (h:∀w',w'.heap[w.heap.size]?=some (.cells z.cells ty (0,0))→Below w.heap.size w w'→w'.heap.size=w.heap.size+1→wpList P ops Q rest (a.put op.dst (.pointer (some ⟨w.heap.size,0,none⟩))) w'):wpList P ops Q (op::rest) a w:=by
 refine BigFrame.wpList_want d fun K b=>?_;unfold Oper.wp execOp;simp only[c,Instr.alloc,newVar,newRow,Sem.run_bind,Sem.run_pure,Result.andThen_ok,f,run_newObj_alloc];exact b _ _ (h _ (zAF w _) ((Below.refl _ _).alloc (Nat.le_refl _) _) (by simp))
theorem bbox (d:Region.wanted op (yielded ops a.tmps)=true)(ty:TypeId)(x:Operand)(c:op.op=.box ty x){L:List Value}(f:a.eval x=.agg L.toArray)
  (h:∀w',w'.heap[w.heap.size]?=some (.cells L.toArray ty (0,0))→Below w.heap.size w w'→w'.heap.size=w.heap.size+1→wpList P ops Q rest (a.put op.dst (.pointer (some ⟨w.heap.size,0,none⟩))) w'):wpList P ops Q (op::rest) a w:=by
 refine BigFrame.wpList_want d fun K b=>?_;unfold Oper.wp execOp;simp only[c,f,Instr.box,newVar,newRow,Value.cells,Sem.run_bind,Sem.run_pure,Result.andThen_ok,run_newObj_alloc];exact b _ _ (h _ (zAF w _) ((Below.refl _ _).alloc (Nat.le_refl _) _) (by simp))
theorem zBY (i:Region.wanted op (yielded ops a.tmps)=true)(t:TypeId)(b:Array (Nat×Operand))(d:op.op=.build t b){v:Value}(f:(Instr.build t (b.map fun p=>(p.1,a.eval p.2))).run P w=.ok v w)(h:wpList P ops Q rest (a.put op.dst v) w):wpList P ops Q (op::rest) a w:=by
 refine BigFrame.wpList_want i fun K c=>?_;unfold Oper.wp execOp;simp only[d,Sem.run_bind,Sem.run_pure,Result.andThen_ok,f];exact c _ _ h
end
theorem zA9 {w:World}{b:Nat}{L:List Value}{t:TypeId}(h:w.heap[b]?=some (.cells L.toArray t (0,0)))(i:Nat)(v:Value):(w.setCell ⟨b,i,none⟩ v).heap[b]?=some (.cells (L.set i v).toArray t (0,0)):=by
 have:=zAH h i v;simpa using this
theorem zBr {P:Program}{o:Oper}{ev:Operand→Value}{w:World}(ty:TypeId)(x:Operand)(j:o.op=.load ty x){b:Nat}(m:ev x=.pointer (some ⟨b,0,none⟩)){L:List Value}{t:TypeId}{fr:Nat×Nat}(c:w.heap[b]?=some (.cells L.toArray t fr)){d:TypeDesc}
  (k:P.underlying ty=some d) (f:d.isRow=true) (i:(P.info? ty).map (·.size)=some L.length):(execOp ev o).run P w=.ok (.value (.agg L.toArray)) w:=by
 unfold execOp;simp only[j,m,Instr.loadAt,Instr.sureAddr,Sem.run_bind,Sem.run_pure,Result.andThen_ok,run_loadVar_mid w b 0 ty L d (range_of c) k f i]
theorem zAY {w w1 c:World}{b:Nat}(h:Below w.heap.size w w1)(d:Chg (fun k=>k=b) w1 c)(f:w.heap.size≤b):Below w.heap.size w c :=
 (((Chg.of_below h).mono fun _ _ e=>e.elim:Chg (fun k=>k=b) w w1).trans d fun _ _ e=>e).below (Nat.le_refl _) fun k i e=>by omega
section
variable {P:Program} {op:Oper} {a:Act} {w:World} {K:Act→World→Prop} {Q:Exit→Act→World→Prop}
theorem zAi (ty:TypeId)(x y:Operand)(o:op.op=.store ty x y)(b:Nat)(q:a.eval x=.pointer (some ⟨b,0,none⟩)){L:List Value}(r:a.eval y=.agg L.toArray){c:Array Value}{t:TypeId}(j:w.heap[b]?=some (.cells c t (0,0)))
  (n:c.size=L.length) (m:(P.info? ty).map (·.size)=some L.length) (d:∀v∈L,v.oneCell'=true) (h:∀w',w'.heap[b]?=some (.cells L.toArray t (0,0))→Chg (fun k=>k=b) w w'→K (a.put op.dst undef) w'):op.wp P a w K Q:=by
 obtain⟨w',p,f,i⟩:=zDP (P:=P) (ty:=ty) j n m d;unfold Oper.wp execOp;simp only[o,q,r,Instr.storeAt,Instr.sureAddr,Sem.run_bind,Sem.run_pure,Result.andThen_ok,p];exact h w' f i
theorem zAo (ty:TypeId)(b:op.op=.alloc ty){z:Value}(c:(zeroValue ty).run P w=.ok z w)(_:z.cells.size≠0)
  (h:∀w',w'.heap[w.heap.size]?=some (.cells z.cells ty (0,0))→Below w.heap.size w w'→w'.heap.size=w.heap.size+1→K (a.put op.dst (.pointer (some ⟨w.heap.size,0,none⟩))) w'):op.wp P a w K Q:=by
 unfold Oper.wp execOp;simp only[b,Instr.alloc,newVar,newRow,Sem.run_bind,Sem.run_pure,Result.andThen_ok,c,run_newObj_alloc];exact h _ (zAF w _) ((Below.refl _ _).alloc (Nat.le_refl _) _) (by simp)
end
end Go.Sat
