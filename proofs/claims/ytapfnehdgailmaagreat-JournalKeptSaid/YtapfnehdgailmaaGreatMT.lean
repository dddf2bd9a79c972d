/- What the program's functions and the document's do, and plain laws, for PJournalKept. -/
import Derived.Deep.Fields
import Derived.Deep.Strs
import Derived.Test.YtapfnehdgailmaaGreatMA
import Derived.Test.YtapfnehdgailmaaGreatMC
import Derived.Test.YtapfnehdgailmaaGreatMD
import Derived.Test.YtapfnehdgailmaaGreatMF
import Derived.Test.YtapfnehdgailmaaGreatMG
import Derived.Test.YtapfnehdgailmaaGreatMS
open Go.Proofs.Tryz
set_option maxRecDepth 100000
set_option maxHeartbeats 64000000
namespace Go.Proofs.YtapfnehdgailmaaGreat
open Go.RowKit Go.Sat Go.Maps
theorem entsB_tk:∀(l:List Ent) (n w:Nat),(zAx n l).take w=zAx n (l.take w)
 | [],_,w=>by cases w<;>rfl
 | e::r,n,0=>rfl
 | e::r,n,w+1=>by
  rw[List.take_succ_cons];unfold zAx;rw[List.take_succ_cons,entsB_tk r (n+1) w]
theorem dat_rebase (M:zAH)(d:Bs)(s:zC8):(M.dat d).rebase s=M.rebase s:=rfl
theorem snp_len2 {s:zC8}(h:s.OK)(i:s.data.length≤6000):(zAK s.bytes).length≤100000:=by
 have b:=zES h.group;have c:=zER s.group (by omega);have d:=zBK s.term;have hn:=h.number;have f:=zAg (n:=s.number) (by omega);have g:=zAg (n:=s.data.length) (by omega);rw[zAe];unfold zC8.bytes zEj zE5;simp only[List.length_append];omega
section
variable {g:List Int} {A c:Nat} {M:zAH} {D:zAA}
theorem live_goes {s:zC8}(h:zCZ g A M D)(R:s.OK)(h1:1≤s.number)(hd:s.data.length≤6000)(hn:M.number<s.number)(hA:A≤6100) :
  ((zA0 [97] D M s).err=0∧(zA0 [97] D M s).jou=M.rebase s∧zCZ g A (M.rebase s) (zA0 [97] D M s).disk∧(D.fuse=none→(zA0 [97] D M s).disk.fuse=none)) ∨
  ((zA0 [97] D M s).err=9∧D.fuse≠none∧(zA0 [97] D M s).jou.dead=true∧AftJ g A (fun N=>N=M∨N=M.rebase s) (zA0 [97] D M s).disk):=by
 have aj:=h.used;have ad:=h.cnt;have S:=h.srt;have G:=snp_len2 R hd;obtain⟨⟨ls,I,M0,z,Q,h2,aa,V,W,h5⟩,i,E,P,y⟩:=h;obtain⟨X,hJ,ab,ac⟩:=joins_is W;have d:(M.rebase s).OK:=zGU E R;have F:(zAL (M.rebase s).rows).length≤150+12*A:=by
  have a:=rows_le d;have b:=rebase_w M s;omega
 have gl:Sat.get (zAm [97]) D.files=some (wh (zAL ls)):=by rw[z,dj_log]
 have gs:Sat.get (zBR [97]) D.files=(zCT I).map wh:=by rw[z,zF7]
 have so:zCD ((zCT I).map wh)=(0,I):=by rw[←zF7 (room:=1048576) (c:=zAL ls)];exact zF6 h2
 have H:SnapOK (some s):=fun x T=>by
  cases T;exact⟨R,h1,by omega,by rw[zAe]at G;omega⟩
 have sn:zCD (some (wh (zAK s.bytes)))=(0,some s):=by
  have:=zF6 (room:=1048576) (c:=zAL ls) H;rw[zF7]at this;exact this
 have C:LogIs g (some (wh (zAL ls))) M0:=⟨wh (zAL ls),ls,[],rfl,rfl,(List.append_nil _).symm,Q,.inl rfl,V⟩;have Y:M.number=M0.number:=by rw[X];rfl
 have B:zAh (some s) M0 false=some (true,M.rebase s):=by
  have:M.rebase s=M0.rebase s:=by rw[X];exact dat_rebase M0 _ s
  rw[this];unfold zAh;exact if_pos (by omega)
 have r:∀b:Bs,Last (some (wh b)):=fun b f z=>by cases z;rfl
 unfold zA0;rw[save_room (by decide) (by decide)];obtain⟨U,e1,q1,j,r1⟩:=jc_save1 (n:=zBR [97]) (b:=zAK s.bytes) S n_sn n_shs;rw[show zEj s.number s.term s.group s.data=s.bytes from rfl,q1];dsimp only;have ah:=j.used;have ae:=j.cnt;have t:Sat.get (zAm [97]) U.files=some (wh (zAL ls)):=(j.oth _ lo_sn lo_shs).trans gl;rcases r1 with⟨L,o,J⟩|⟨rfl,J,k1⟩
 ·rw[if_pos L];have p:e1=9∧D.fuse≠none:=by
   rcases o with o|o|o
   ·omega
   ·omega
   ·exact o
  refine .inr ⟨p.1,p.2,rfl,j.srt,j.room.trans i,by dsimp only;omega,by dsimp only;omega,fun k=>⟨M,.inl rfl,?_⟩⟩
  ·refine SaysF.crash ?_ k;dsimp only;rw[t,J,gs];exact⟨I,M0,false,so,last_wh _,C,W,fun e=>by cases e⟩
 ·rw[if_neg (by decide)];unfold zAT;obtain⟨D2,e2,q2,q,r2⟩:=jc_save1 (n:=zAm [97]) (b:=zAL (M.rebase s).rows) j.srt n_lo n_shl;rw[q2];dsimp only;have ai:=q.used;have af:=q.cnt;have ag:=j.room;have v:Sat.get (zBR [97]) D2.files=some (wh (zAK s.bytes)):=(q.oth _ lo_sn.symm sn_shl).trans J;rcases r2 with⟨O,o,g2⟩|⟨rfl,g2,k2⟩
  ·rw[if_pos O];have p:e2=9∧U.fuse≠none:=by
    rcases o with o|o|o
    ·omega
    ·omega
    ·exact o
   refine .inr ⟨p.1,fun e=>p.2 (j.fuse e),rfl,q.srt,(q.room.trans j.room).trans i,by dsimp only;omega,by dsimp only;omega,fun k=>⟨M.rebase s,.inr rfl,?_⟩⟩
   ·refine SaysF.crash ?_ k;dsimp only;rw[g2,t,v];exact⟨some s,M0,true,sn,r _,C,B,fun _=>⟨d,F⟩⟩
  ·rw[if_neg (by decide)];refine .inl ⟨rfl,rfl,⟨⟨(M.rebase s).rows,some s,{M.rebase s with data:=[],dead:=false},?_,fun l hl=>Nat.le_trans ((zE6 d).1 l hl) (by decide),H,fun x T=>?_,?_,joins_again B (by rw[(recAll_keeps V).2];rfl),F⟩,(q.room.trans j.room).trans i,d,Nat.le_trans (rebase_w M s) P,y⟩,fun e=>q.fuse (j.fuse e)⟩
   ·refine files_dj q.srt g2 v fun m Z K=>?_
    by_cases m3:m=zAF (zAm [97])
    ·rw[m3];exact k2
    ·dsimp only;rw[q.oth m Z m3]
     by_cases m4:m=zAF (zBR [97])
     ·rw[m4];exact k1
     ·rw[j.oth m K m4,z];exact dj_other Z K
   ·cases T;exact G
   ·exact zGV (M:=M.rebase s) (N:=zAH.none0 g) d.last d.term d.group d.now d.vote d.ents rfl rfl rfl
def Ends (C:Prop)(g:List Int)(A c:Nat)(M:zAH)(D:zAA)(M':zAH)(P:zAH→Prop)(W:zDS):Prop :=
 (C∧W=⟨D,M,1⟩)∨(¬C∧W.err=0∧W.jou=M'∧zCZ g (A+c) M' W.disk∧(D.fuse=none→W.disk.fuse=none))∨(¬C∧W.err=9∧D.fuse≠none∧W.jou.dead=true∧AftJ g (A+c) P W.disk)
theorem live_term (h:zCZ g A M D)(t v:Int)(r:A+5≤6100):Ends (M.mayVote t v=false) g A 5 M D {M with now:=t,vote:=v} (fun N=>N=M∨N={M with now:=t,vote:=v}) (zA2 [97] D M t v):=by
 have f:=h.ok;unfold zA2;rw[if_neg (by rw[h.alive];simp)];cases j:M.mayVote t v with
 | false=>rw[if_pos rfl];exact .inl ⟨rfl,rfl⟩
 | true =>
  rw[if_neg (by simp)];have k:¬(true=false):=by decide
  by_cases n:t=M.now∧v=M.vote
  ·rw[if_pos n];obtain⟨rfl,rfl⟩:=n;exact .inr (.inl ⟨k,rfl,rfl,h.more 5,id⟩)
  ·rw[if_neg n];have q:=(zAl.1 f.now).1;have p:M.now≤t∧t≤1099511627776∧-1≤v∧v<7:=by
    unfold zAH.mayVote at j;rw[Bool.and_eq_true]at j;exact of_decide_eq_true j.1
   have y:=zDJ t v;have i:zBU M [zCV t v]=some {M with now:=t,vote:=v}:=by
    show(zBe false M (zCV t v)).bind (fun M'=>zBU M' [])=_
    rw[rec_trm j q];rfl
   rcases live_lays (c:=5) (M':={M with now:=t,vote:=v}) (rs:=[zCV t v]) h (fun l m=>by rw[List.mem_singleton.1 m];omega) i h.alive ⟨f.last,f.term,f.group,zAl.2 ⟨by show 0≤t;omega,p.2.1⟩,p.2.2,f.data,f.ents⟩ (by rw[zDl];omega) (Nat.le_add_right_of_le h.ents) r with⟨a,b,d⟩|⟨a,b,d⟩
   ·exact .inr (.inl ⟨k,a,b,d⟩)
   ·refine .inr (.inr ⟨k,a,b,by rw[d.1];rfl,d.2.mono fun N s=>?_⟩);obtain⟨w,o⟩:=s;cases w with
    | zero=>exact .inl (Option.some.inj o).symm
    | succ w =>
     rw[List.take_succ_cons,List.take_nil]at o;exact .inr (Option.some.inj (o.symm.trans i))
theorem zFn {l:List Ent}(h:zCZ g A M D)(B:zBO l≤c)(t:A+c≤6100):Ends (1099511627776<M.last+l.length∨l.all zAt=false) g A c M D {M with entries:=M.entries++l} (fun N=>∃w,N={M with entries:=M.entries++l.take w}) (zAZ [97] D M l):=by
 have k:=h.ok;unfold zAZ;rw[if_neg (by rw[h.alive];simp)]
 by_cases f:1099511627776<M.last+l.length∨l.all zAt=false
 ·rw[if_pos f];exact .inl ⟨f,rfl⟩
 ·rw[if_neg f]
  by_cases j:l=[]
  ·rw[if_pos j];refine .inr (.inl ⟨f,rfl,?_,?_,id⟩)
   ·rw[j,List.append_nil]
   ·rw[j,List.append_nil];exact h.more c
  ·rw[if_neg j];have p:M.last+l.length≤1099511627776:=by omega
   have i:∀e∈l,zAt e=true:=by
    cases s:l.all zAt with
    | false=>exact absurd (.inr s) f
    | true=>exact List.all_eq_true.1 s
   have r:=recs_ents M.last l i (by omega);have q:=zCq M.last l i (by omega);have n:=zED l M i p;have m:({M with entries:=M.entries++l}:zAH).last≤1099511627776:=by
    show M.number+(M.entries++l).length≤_
    rw[List.length_append];have:M.last=M.number+M.entries.length:=rfl;omega
   rcases live_lays (c:=c) (M':={M with entries:=M.entries++l}) (rs:=zAx M.last l) h (fun x z=>Nat.le_trans (q x z) (by decide)) n h.alive ⟨m,k.term,k.group,k.now,k.vote,k.data,fun e o=>(List.mem_append.1 o).elim (k.ents e) (i e)⟩ (by omega) (by
    show zBO (M.entries++l)≤_
    rw[zF9];have:=h.ents;omega) t with⟨a,b,d⟩|⟨a,b,d⟩
   ·exact .inr (.inl ⟨f,a,b,d⟩)
   ·refine .inr (.inr ⟨f,a,b,by rw[d.1];rfl,d.2.mono fun N v=>?_⟩);obtain⟨w,r⟩:=v;refine⟨w,?_⟩;have y:(zAx M.last l).take w=zAx M.last (l.take w):=entsB_tk l M.last w;rw[y,zED (l.take w) M (fun e o=>i e (List.mem_of_mem_take o)) (by rw[List.length_take];omega)]at r;exact(Option.some.inj r).symm
theorem live_cut (h:zCZ g A M D)(i:Int)(p:A+5≤6100):Ends (i≤(M.number:Int)) g A 5 M D {M with entries:=M.entries.take (i.toNat-M.number-1) } (fun N=>N=M∨N={M with entries:=M.entries.take (i.toNat-M.number-1) }) (zBW [97] D M i):=by
 have f:=h.ok;have s:=f.last;have t:M.last=M.number+M.entries.length:=rfl;unfold zBW;rw[if_neg (by rw[h.alive];simp)]
 by_cases k:i≤(M.number:Int)
 ·rw[if_pos k];exact .inl ⟨k,rfl⟩
 ·rw[if_neg k]
  by_cases o:(M.last:Int)<i
  ·rw[if_pos o];have e:({M with entries:=M.entries.take (i.toNat-M.number-1) }:zAH)=M:=by rw[List.take_of_length_le (by omega)]
   rw[e];exact .inr (.inl ⟨k,rfl,rfl,h.more 5,id⟩)
  ·rw[if_neg o];have v:=cutB_len i.toNat (by omega);have j:zBU M [cutB i.toNat]=some {M with entries:=M.entries.take (i.toNat-M.number-1) }:=by
    show(zBe false M (cutB i.toNat)).bind (fun M'=>zBU M' [])=_
    rw[rec_cut (by omega) (by omega) (by omega)];rfl
   rcases live_lays (c:=5) (M':={M with entries:=M.entries.take (i.toNat-M.number-1) }) (rs:=[cutB i.toNat]) h (fun l m=>by rw[List.mem_singleton.1 m];omega) j h.alive ⟨by
    show M.number+(M.entries.take _).length≤_
    rw[List.length_take];omega,f.term,f.group,f.now,f.vote,f.data,fun e r=>f.ents e (List.mem_of_mem_take r)⟩ (by rw[zDl];omega) (Nat.le_trans (entsW_take _ _) (Nat.le_add_right_of_le h.ents)) p with⟨a,b,d⟩|⟨a,b,d⟩
   ·exact .inr (.inl ⟨k,a,b,d⟩)
   ·refine .inr (.inr ⟨k,a,b,by rw[d.1];rfl,d.2.mono fun N q=>?_⟩);obtain⟨w,n⟩:=q;cases w with
    | zero=>exact .inl (Option.some.inj n).symm
    | succ w =>
     rw[List.take_succ_cons,List.take_nil]at n;exact .inr (Option.some.inj (n.symm.trans j))
theorem live_compact (h:zCZ g A M D)(i:Int){b:Bs}(k:b.length≤6000)(j:A≤6100):Ends (i≤(M.number:Int)∨(M.last:Int)<i∨524288<b.length) g A 0 M D (M.rebase ⟨i.toNat,(M.termAt i).getD 0,(M.grpIn (i.toNat-M.number)).1,b⟩) (fun N=>N=M∨N=M.rebase ⟨i.toNat,(M.termAt i).getD 0,(M.grpIn (i.toNat-M.number)).1,b⟩) (zAW [97] D M i b):=by
 have f:=h.ok;have l:=f.last;unfold zAW;rw[if_neg (by rw[h.alive];simp)]
 by_cases c:i≤(M.number:Int)∨(M.last:Int)<i∨524288<b.length
 ·rw[if_pos c];exact .inl ⟨c,rfl⟩
 ·rw[if_neg c];have m:(⟨i.toNat,(M.termAt i).getD 0,(M.grpIn (i.toNat-M.number)).1,b⟩:zC8).OK:=⟨by dsimp only;omega,by
   dsimp only;cases n:M.termAt i with
   | none=>rfl
   | some t=>exact termAt_ok f n,zFO f _,by dsimp only;omega⟩
  rcases live_goes h m (by dsimp only;omega) k (by dsimp only;omega) j with⟨a,d,e⟩|⟨a,d,e⟩
  ·exact .inr (.inl ⟨c,a,d,e⟩)
  ·exact .inr (.inr ⟨c,a,d,e⟩)
theorem live_install (h:zCZ g A M D)(i t:Int){ns:List Int}{b:Bs}(j:b.length≤6000)(f:A≤6100):Ends (i≤(M.number:Int)∨1099511627776<i∨zDG t=false∨zAX ns=false∨524288<b.length) g A 0 M D (M.rebase ⟨i.toNat,t,ns,b⟩) (fun N=>N=M∨N=M.rebase ⟨i.toNat,t,ns,b⟩) (zAa [97] D M i t ns b):=by
 unfold zAa;rw[if_neg (by rw[h.alive];simp)]
 by_cases c:i≤(M.number:Int)∨1099511627776<i∨zDG t=false∨zAX ns=false∨524288<b.length
 ·rw[if_pos c];exact .inl ⟨c,rfl⟩
 ·rw[if_neg c];have l:(⟨i.toNat,t,ns,b⟩:zC8).OK:=⟨by dsimp only;omega,by
   cases m:zDG t with
   | true=>rfl
   | false=>exact absurd (.inr (.inr (.inl m))) c,by
   cases k:zAX ns with
   | true=>rfl
   | false=>exact absurd (.inr (.inr (.inr (.inl k)))) c,by dsimp only;omega⟩
  rcases live_goes h l (by dsimp only;omega) j (by dsimp only;omega) f with⟨a,d,e⟩|⟨a,d,e⟩
  ·exact .inr (.inl ⟨c,a,d,e⟩)
  ·exact .inr (.inr ⟨c,a,d,e⟩)
end
theorem crash_used (E:zAA)(k:Int):(E.crash k).used≤E.used:=by
 unfold zAA.used zAA.crash;dsimp only;rw[mp_sum];unfold zBM;generalize E.files=L
 induction L with
 | nil=>exact Nat.le_refl _
 | cons x r ih =>
  rw[List.map_cons,List.map_cons,List.sum_cons,List.sum_cons];have:(fun a=>zAA.size (zAA.crashF k a)) x.2≤zAA.size x.2:=by
   dsimp only;unfold zAA.crashF zAA.size;rw[List.length_take];omega
  omega
theorem aft_open {g:List Int}{A:Nat}{P:zAH→Prop}{D:zAA}(j:zAX g=true)(h:AftJ g A P D)(Q:A≤6100)(k:Int) :
  ∃M,P M∧(zAV (D.crash k) [97] g).2=(0,M)∧∀a t:Int,(zAV ((D.crash k).setFuse a) [97] g).1.room=1048576∧(zAV ((zAV ((D.crash k).setFuse a) [97] g).1.crash t) [97] g).2=(0,M):=by
 obtain⟨M,q,l⟩:=h.says k;have f:=h.room;have s:=h.used;have r:=h.cnt;have b:∀(E:zAA) (k:Int),Srt E.files→Srt (E.crash k).files:=fun E k h=>mp_srt h;have d:∀(E:zAA) (k:Int),(E.crash k).files.length=E.files.length:=fun E k=>mp_len _ _;have T:=crash_used D k;have R:=d D k;rw[←zF5,←zF5]at l;obtain⟨G,L,n,q1,-,-,-,-,-,o⟩:=open_says j (b D k h.srt) l;obtain⟨rfl,rfl⟩:=o rfl (by show(D.crash k).used+_≤D.room;omega) (by omega);refine⟨n,q,by rw[q1],fun a t=>?_⟩;obtain⟨c,N,I,q2,B,w2,z,C,n2,-⟩:=open_says (D:=(D.crash k).setFuse a) j (b D k h.srt) l;rw[q2];dsimp only;have i:=w2.crash t;rw[←zF5,←zF5]at i;have U:=crash_used c t;have S:=d c t;have F:c.used≤(D.crash k).used+(150+12*A):=C;have v:c.files.length≤(D.crash k).files.length+8:=n2;have m:c.room=D.room:=z;obtain⟨H,O,J,y,-,-,-,-,-,p⟩:=open_says j (b c t B) i;obtain⟨rfl,rfl⟩:=p rfl (by show(c.crash t).used+_≤c.room;omega) (by omega);rw[y];exact⟨m.trans f,rfl⟩
theorem live_start:zCZ [0,1,2] 0 (zAH.none0 [0,1,2]) (zCW 1048576 [97] [0,1,2]):=by
 have f:zAX [0,1,2]=true:=rfl;have b:=zFL f;refine⟨⟨(zAH.none0 [0,1,2]).rows,none,zAH.none0 [0,1,2],by rw[zFU];rfl,fun l g=>?_,fun x d=>(by cases d),fun x d=>(by cases d),?_,rfl,by rw[zFU];exact b⟩,rfl,⟨by decide,rfl,rfl,rfl,⟨Int.le_refl _,show(-1:Int)<7 by decide⟩,Nat.zero_le _,fun e c=>by cases c⟩,Nat.le_refl _,rfl⟩
 ·unfold zFc at b;rw[List.length_append,zAe,zAe]at b;rcases(show l=zEo 0 0 [0,1,2]∨l=zCV 0 (-1) by simpa[zAH.rows,zAH.none0,zAx]using g)with rfl|rfl<;>omega
 ·exact zGV (M:=zAH.none0 [0,1,2]) (N:=zAH.none0 [0,1,2]) (Nat.zero_le _) rfl f rfl ⟨Int.le_refl _,show(-1:Int)<7 by decide⟩ (fun e c=>by cases c) rfl rfl rfl
end Go.Proofs.YtapfnehdgailmaaGreat
namespace Go.Proofs.YtapfnehdgailmaaGreat
open Go.RowKit Go.Sat Go.ChangeShapes Go.WideShapes Go.ChangeAt Go.Deep
section
variable {H:Type} {enc:TypeId×Value→H} {P:Program} {W:World}
theorem bulk_pos (d:DataW H):1≤Rows.uptoBulk d:=by
 cases d with
 | lit l=>cases l<;>simp[Rows.uptoBulk]
 | _=>simp[Rows.uptoBulk]
theorem bulk_mem {d:DataW H}:∀{l:List (DataW H)},d∈l→Rows.uptoBulk d≤Rows.uptoBulkAll l
 | [],h=>by simp at h
 | x::r,h=>by
  simp only[Rows.uptoBulkAll];rcases List.mem_cons.1 h with rfl|h
  ·omega
  ·have:=bulk_mem h;omega
theorem bulk_len:∀l:List (DataW H),l.length≤Rows.uptoBulkAll l
 | []=>Nat.zero_le _
 | x::r=>by
  have b:=bulk_len r;have c:=bulk_pos x;simp only[Rows.uptoBulkAll,List.length_cons];omega
theorem bulk_slice (l r:List (DataW H)):Rows.uptoBulkAll l≤Rows.uptoBulk (.slice l r):=by simp only[Rows.uptoBulk];omega
theorem bulk_agg (l:List (DataW H)):Rows.uptoBulkAll l≤Rows.uptoBulk (.agg l):=by simp only[Rows.uptoBulk];omega
theorem slice_bulk {t e:TypeId}{fuel:Nat}{a:Option Addr}{b g:Nat}{d:DataW H}{ps:List MemPlace}(q:P.underlying t=some (.slice e))(o:DataW.trod enc P W 0 (fun _=>true) true fuel t [.slice a b g]=some (d,ps)):b≤Rows.uptoBulk d:=by
 rcases open_slice q o with⟨f,-⟩|⟨x,l,c,m,n,D,Pl,f,-,v,y,p,k,s⟩
 ·simp only[List.cons.injEq,Value.slice.injEq,and_true]at f;omega
 ·simp only[List.cons.injEq,Value.slice.injEq,and_true]at f;obtain⟨rfl,rfl,rfl⟩:=f;obtain⟨rfl,-⟩:=Prod.mk.inj k;have i:=bulk_len ((List.range b).map D);have r:=bulk_slice ((List.range b).map D) ((List.range (m-b)).map fun j=>D (b+j));rw[List.length_map,List.length_range]at i;omega
def FieldAt (enc:TypeId×Value→H)(P:Program)(W:World)(B K:Nat)(a:Addr)(t:TypeId):Prop :=
 ∃(v:Value) (fuel:Nat) (d:DataW H) (ps:List MemPlace),W.cell? a=some v∧DataW.trod enc P W 0 (fun _=>true) true fuel t [v]=some (d,ps)∧(∀m∈d.weights P t,m≤B)∧Rows.uptoBulk d≤K
theorem open_recs {t e:TypeId}{q:Array Field}{fuel:Nat}{a:Option Addr}{b A B:Nat}{d:DataW H}{ps:List MemPlace}(J:P.underlying t=some (.slice e))(R:P.underlying e=some (.struct q))
  (y:oneCellFields P q=true) (T:P.cellsOf e=q.size) (X:DataW.trod enc P W 0 (fun _=>true) true fuel t [.slice a b A]=some (d,ps)) (S:∀n∈d.weights P t,n≤B) :
  (a=none∧b=0)∨∃x,a=some x∧b*P.bytesOf e≤B∧∀i,i<b→∀j f,q[j]?=some f→FieldAt enc P W B (Rows.uptoBulk d) (x.add (i*q.size+j)) f.type:=by
 rcases open_slice J X with⟨g,-⟩|⟨x,l,c,m,n,D,Pl,g,-,hl,hm,I,V,Y⟩
 ·simp only[List.cons.injEq,Value.slice.injEq,and_true]at g;exact .inl ⟨g.1,g.2.1⟩
 ·simp only[List.cons.injEq,Value.slice.injEq,and_true]at g;obtain⟨rfl,rfl,rfl⟩:=g;obtain⟨rfl,-⟩:=Prod.mk.inj V;have Z:b≤m:=by rw[I];split<;>omega
  have O:=zFC J S;simp only[List.length_map,List.length_range]at O;refine .inr ⟨x,rfl,Nat.le_trans (Nat.mul_le_mul_right _ (Nat.le_add_right _ _)) O,fun i E j f h=>?_⟩;obtain⟨r,Q,L⟩:=Y i (by omega);rw[T]at Q;obtain⟨_,U,C⟩:=World.cells?_some Q;obtain⟨p,n',-,hy,-,aa,s⟩:=DataW.trod_struct R L;obtain⟨N,-⟩:=Prod.mk.inj hy;have F:j<q.size:=(Array.getElem?_eq_some_iff.1 h).1;obtain⟨K,G⟩:=hone_of y j f h;have M:=s j f h;rw[K,G,List.drop_eq_getElem_cons (show j<r.length by omega),List.take_succ_cons,List.take_zero,List.getElem?_eq_getElem (show j<p.length by omega)]at M;have o:=C j F;rw[Go.Deep.add_add,List.getElem?_eq_getElem (show j<r.length by omega)]at o;have v:D i∈(List.range b).map D:=List.mem_map.2 ⟨i,List.mem_range.2 E,rfl⟩;have z:(p.map (·.1))[j]?=some (p[j]'(by omega)).1:=by
   rw[List.getElem?_map,List.getElem?_eq_getElem (show j<p.length by omega)];rfl
  refine⟨_,n',(p[j]'(by omega)).1,(p[j]'(by omega)).2,o,M,fun k G=>?_,?_⟩
  rotate_left
  ·have k1:=bulk_mem (List.mem_of_getElem? z);have k2:=bulk_agg (p.map (·.1));have k3:=bulk_mem v;have k4:=bulk_slice ((List.range b).map D) ((List.range (m-b)).map fun j=>D (b+j));rw[N]at k3;omega
  refine weights_elem J S v k ?_;rw[N];simp only[DataW.weights,R];refine DataW.weights_mem_each (j:=j) (t:=f.type) (d:=(p[j]'(by omega)).1) ?_ z k G;rw[List.getElem?_map,Array.getElem?_toList,h];rfl
theorem zEw {a:Addr}{t:TypeId}{k:IntKind}{B K:Nat}(g:P.underlying t=some (.int k))(h:FieldAt enc P W B K a t):∃n,W.cell? a=some (.int k n)∧(Lit.int k n).wf=true:=by
 obtain⟨v,fuel,d,ps,f,b,-⟩:=h;obtain⟨n,e,-,c⟩:=DataW.trod_int g b;cases e;exact⟨n,f,c⟩
end
section
variable {H:Type} {enc:TypeId×Value→H} {W:World}
theorem zDs {P:Program}{t e:TypeId}{fuel:Nat}{v:Value}{x:DataW H×List MemPlace}(f:P.underlying t=some (.slice e))(h:DataW.trod enc P W 0 (fun _=>true) true fuel t [v]=some x):∃a d c,v=.slice a d c:=by
 rcases open_slice f h with⟨b,-⟩|⟨a,d,c,_,_,_,_,b,-⟩<;>(simp only[List.cons.injEq,and_true]at b;exact⟨_,_,_,b⟩)
theorem field_bytes {a:Addr}{K:Nat}(h:FieldAt enc prog W reachBytes K a 22):∃p n c l,W.cell? a=some (.slice p n c)∧zAY W (.slice p n c) l∧l.length≤140737488355328∧l.length≤K:=by
 obtain⟨v,fuel,d,ps,i,b,k,j⟩:=h;obtain⟨p,n,c,rfl⟩:=zDs underlying22 b;obtain⟨l,f,hn⟩:=bytes_arg b k;have g:=slice_bulk underlying22 b;obtain⟨o,m,e⟩:=f.slice;cases e;exact⟨p,_,c,l,i,f,hn,Nat.le_trans g j⟩
end
section
variable {H:Type} {enc:TypeId×Value→H} {W:World} {fuel:Nat} {d:DataW H} {ps:List MemPlace}
theorem ints_arg {a:Option Addr}{b j:Nat}(y:DataW.trod enc prog W 0 (fun _=>true) true fuel 38 [.slice a b j]=some (d,ps))(A:∀n∈d.weights prog 38,n≤reachBytes) :
  ∃l:List Int,zBg W (.slice a b j) l∧l.length=b∧b≤17592186044416∧∀z∈l,-9223372036854775808≤z∧z≤9223372036854775807:=by
 rcases open_ints underlying38 underlying3 (by kernel_rfl) y with⟨f,_⟩|⟨x,l,c,zs,f,_,C,D,r,t,k,q⟩
 ·simp at f;obtain⟨rfl,rfl,rfl⟩:=f;exact⟨[],⟨by simp,none,0,rfl,fun _=>rfl,fun a m=>by cases m⟩,rfl,by decide,fun z r=>by cases r⟩
 ·simp at f;obtain⟨rfl,rfl,rfl⟩:=f;simp only[if_true]at r;simp only[Prod.mk.injEq]at t;obtain⟨rfl,_⟩:=t;have o:=zFC underlying38 A;rw[show prog.bytesOf 3=8 by kernel_rfl]at o;simp only[lits,List.length_map,List.length_take,List.length_drop]at o;have g:(zs.take b).length=b:=by rw[List.length_take];omega
  refine⟨zs.take b,⟨by simp,some x,j,by rw[g],fun e=>(by cases e),fun B m i u p=>?_⟩,g,by unfold reachBytes at o;omega,fun z s=>?_⟩
  ·cases m;have h:i<b:=by
    have:=(List.getElem?_eq_some_iff.1 p).1;rw[List.length_map,g]at this;exact this
   rw[k i (by omega)];have v:zs.getD i 0=zs[i]'(by omega):=by simp[List.getD,List.getElem?_eq_getElem (show i<zs.length by omega)]
   rw[List.getElem?_map,List.getElem?_take,if_pos h,List.getElem?_eq_getElem (show i<zs.length by omega),Option.map_some]at p;rw[v];exact p
  ·have:=bounds_i64 (q z (List.mem_of_mem_take s));exact⟨this.1,this.2⟩
end
def zC9 (w:World)(x:Value)(es:List Ent)(vs:List EV):Prop:=vs.length=es.length∧zAM w 4 x es.length (zAz es vs)∧∀(i:Nat) e v,es[i]?=some e→vs[i]?=some v→zAY w v.1 e.data∧zBg w v.2 e.nodes∧e.data.length≤140737488355328∧e.nodes.length≤140737488355328
theorem zC9.has {w:World}{x:Value}{es:List Ent}{vs:List EV}(h:zC9 w x es vs)(c:∀e∈es,e.data.length≤1099511627776∧e.nodes.length≤1099511627776):zCb w x es vs :=
 ⟨h.1,h.2.1,fun i e v b d=>⟨(h.2.2 i e v b d).1,(h.2.2 i e v b d).2.1,(c e (List.mem_of_getElem? b)).1,(c e (List.mem_of_getElem? b)).2⟩⟩
theorem zC9.len {w:World}{p:Option Addr}{n c:Nat}{es:List Ent}{vs:List EV}(h:zC9 w (.slice p n c) es vs):es.length=n:=by
 obtain⟨-,⟨-,_,_,e,-⟩,-⟩:=h;simp only[Value.slice.injEq]at e;exact e.2.1.symm
theorem zC9.ent {w:World}{p:Option Addr}{n c:Nat}{es:List Ent}{vs:List EV}(h:zC9 w (.slice p n c) es vs){i:Nat}(s:i<es.length):∃b o v,p=some ⟨b,o,none⟩∧(zAY w v.1 es[i].data∧zBg w v.2 es[i].nodes∧es[i].data.length≤140737488355328∧es[i].nodes.length≤140737488355328)∧vs[i]?=some v ∧
  w.cell? ⟨b,o+i*4,none⟩=some (.int .i64 es[i].term)∧w.cell? ⟨b,o+i*4+1,none⟩=some (.int .i64 es[i].kind)∧w.cell? ⟨b,o+i*4+2,none⟩=some v.1∧w.cell? ⟨b,o+i*4+3,none⟩=some v.2:=by
 have hn:=h.len;obtain⟨f,m,q⟩:=h;rw[hn]at m;have g:vs[i]?=some (vs[i]'(by omega)):=List.getElem?_eq_getElem _;generalize vs[i]'(by omega)=v at g;have l:=List.getElem?_eq_getElem s;have j:zAz es vs≠[]:=fun e=>by
  have:=zDy es vs f;rw[e]at this;simp at this;omega
 obtain⟨b,o,rfl,r⟩:=holds_at4 m j;have d:∀(k:Nat) u,(zEm es[i] v)[k]?=some u→w.cell? ⟨b,o+(i*4+k),none⟩=some u:=fun k u t=>r _ _ (zEM _ _ i _ v l g k u t);exact⟨b,o,v,rfl,q i _ v l g,g,d 0 _ rfl,d 1 _ rfl,d 2 _ rfl,d 3 _ rfl⟩
structure zEJ where
 kind:Int
 a:Int
 b:Int
 pl:Option Addr
 nl:Nat
 cl:Nat
 pn:Option Addr
 nn:Nat
 cn:Nat
 pd:Option Addr
 nd:Nat
 cd:Nat
 es:List Ent
 vs:List EV
 nodes:List Int
 data:Bs
structure Step5At (w:World)(g j:Nat)(s:zEJ):Prop where
 ck:w.cell? ⟨g,j,none⟩=some (.int .i64 s.kind)
 ca:w.cell? ⟨g,j+1,none⟩=some (.int .i64 s.a)
 cb:w.cell? ⟨g,j+2,none⟩=some (.int .i64 s.b)
 c3:w.cell? ⟨g,j+3,none⟩=some (.slice s.pl s.nl s.cl)
 c4:w.cell? ⟨g,j+4,none⟩=some (.slice s.pn s.nn s.cn)
 c5:w.cell? ⟨g,j+5,none⟩=some (.slice s.pd s.nd s.cd)
 he:zC9 w (.slice s.pl s.nl s.cl) s.es s.vs
 hn:zBg w (.slice s.pn s.nn s.cn) s.nodes
 hd:zAY w (.slice s.pd s.nd s.cd) s.data
 ok:(-9223372036854775808≤s.kind∧s.kind≤9223372036854775807)∧(-9223372036854775808≤s.a∧s.a≤9223372036854775807)∧(-9223372036854775808≤s.b∧s.b≤9223372036854775807)∧s.nodes.length≤140737488355328∧s.data.length≤140737488355328∧s.es.length≤140737488355328∧(∀z∈s.nodes,-9223372036854775808≤z∧z≤9223372036854775807)∧∀e∈s.es,(-9223372036854775808≤e.term∧e.term≤9223372036854775807)∧(-9223372036854775808≤e.kind∧e.kind≤9223372036854775807)∧∀z∈e.nodes,-9223372036854775808≤z∧z≤9223372036854775807
def Steps5 (w:World)(p:Option Addr)(n:Nat)(l:List zEJ):Prop:=l.length=n∧(l=[]∨∃g o,p=some ⟨g,o,none⟩∧∀i s,l[i]?=some s→Step5At w g (o+i*6) s)
section
variable {H:Type} {enc:TypeId×Value→H} {W:World}
theorem field_ints {a:Addr}{K:Nat}(h:FieldAt enc prog W reachBytes K a 38):∃p n c l,W.cell? a=some (.slice p n c)∧zBg W (.slice p n c) l∧l.length≤140737488355328∧∀z∈l,-9223372036854775808≤z∧z≤9223372036854775807:=by
 obtain⟨v,fuel,d,ps,g,b,k,m⟩:=h;obtain⟨p,n,c,rfl⟩:=zDs underlying38 b;obtain⟨l,i,j,hn,f⟩:=ints_arg b k;exact⟨p,n,c,l,g,i,by omega,f⟩
theorem addr_at {g o k:Nat}:(⟨g,o,none⟩:Addr).add k=⟨g,o+k,none⟩:=by unfold Addr.add;split<;>simp_all
theorem ents_holds {g o n c:Nat}{es:List Ent}{vs:List EV}(hn:es.length=n)(r:vs.length=es.length)
  (h:∀i e v,es[i]?=some e→vs[i]?=some v→∀j u,(zEm e v)[j]?=some u→W.cell? ⟨g,o+i*4+j,none⟩=some u):zAM W 4 (.slice (some ⟨g,o,none⟩) n c) es.length (zAz es vs):=by
 subst hn;refine⟨zDy es vs r,some ⟨g,o,none⟩,c,rfl,fun e=>(by cases e),fun a t m u q=>?_⟩;cases t;rw[addr_at];have A:m<es.length*4:=by have:=(List.getElem?_eq_some_iff.1 q).1;rwa[zDy es vs r]at this
 have y:m/4<es.length:=by omega
 have f:m/4<vs.length:=by omega
 have p:=List.getElem?_eq_getElem y;have d:=List.getElem?_eq_getElem f;have s:(zEm es[m/4] vs[m/4]).length=4:=rfl;have z:m%4<(zEm es[m/4] vs[m/4]).length:=by rw[s];omega
 have b:=List.getElem?_eq_getElem z;have k:=zEM es vs (m/4) _ _ p d (m%4) _ b;rw[show m/4*4+m%4=m by omega,q]at k;have l:=h (m/4) _ _ p d (m%4) _ b;rw[show o+m/4*4+m%4=o+m by omega]at l;rw[l,k]
theorem field_ents {a:Addr}{K:Nat}(h:FieldAt enc prog W reachBytes K a 78):∃p n c es vs,W.cell? a=some (.slice p n c)∧zC9 W (.slice p n c) es vs∧es.length≤140737488355328 ∧
  ∀e∈es,(-9223372036854775808≤e.term∧e.term≤9223372036854775807)∧(-9223372036854775808≤e.kind∧e.kind≤9223372036854775807)∧∀z∈e.nodes,-9223372036854775808≤z∧z≤9223372036854775807:=by
 obtain⟨v,fuel,d,ps,H,J,hw,hk⟩:=h;obtain⟨p,n,c,rfl⟩:=zDs underlying78 J;have B:∀(p:Option Addr),n=0→zC9 W (.slice p n c) [] []:=fun p L=>by
  subst L;exact⟨rfl,⟨rfl,p,c,rfl,fun _=>rfl,fun a ha i u l=>by simp[zAz]at l⟩,fun i e v b=>by simp at b⟩
 rcases open_recs underlying78 underlying50 (by kernel_rfl) (by kernel_rfl) J hw with⟨rfl,rfl⟩|⟨x,rfl,A,m⟩
 ·exact⟨none,0,c,[],[],H,B none rfl,by decide,fun e b=>by cases b⟩
 ·rw[show prog.bytesOf 50=64 by kernel_rfl]at A;have F:n≤140737488355328:=by unfold reachBytes at A;omega
  by_cases L:n=0
  ·exact⟨some x,n,c,[],[],H,B _ L,by decide,fun e b=>by cases b⟩
  obtain⟨g,o,sp⟩:=x;have O:sp=none:=by
   obtain⟨v,_,_,_,H,-⟩:=m 0 (by omega) 0 _ rfl;have:=World.cell?_spot H;simpa[Addr.add]using this
  subst O;have G:∀i,i<n→∃s:Ent×EV,(zAY W s.2.1 s.1.data∧zBg W s.2.2 s.1.nodes∧s.1.data.length≤140737488355328∧s.1.nodes.length≤140737488355328)∧(∀j u,(zEm s.1 s.2)[j]?=some u→W.cell? ⟨g,o+i*4+j,none⟩=some u) ∧
    (-9223372036854775808≤s.1.term∧s.1.term≤9223372036854775807)∧(-9223372036854775808≤s.1.kind∧s.1.kind≤9223372036854775807)∧∀z∈s.1.nodes,-9223372036854775808≤z∧z≤9223372036854775807:=fun i r=>by
   have e4:∀j,(⟨g,o,none⟩:Addr).add (i*4+j)=⟨g,o+i*4+j,none⟩:=fun j=>by rw[addr_at,Nat.add_assoc]
   obtain⟨t,Z,wt⟩:=zEw underlying3 (m i r 0 _ rfl);obtain⟨k,Y,wk⟩:=zEw underlying3 (m i r 1 _ rfl);obtain⟨pb,nb,V,lb,T,hb,wb⟩:=field_bytes (m i r 2 _ rfl);obtain⟨pi,ni,X,li,U,M,wi,S⟩:=field_ints (m i r 3 _ rfl);have Q:=bounds_i64 wt;have R:=bounds_i64 wk;refine⟨(⟨t,k,lb,li⟩,(.slice pb nb V,.slice pi ni X)),⟨hb,M,wb.1,wi⟩,fun j u l=>?_,⟨Q.1,Q.2⟩,⟨R.1,R.2⟩,S⟩;rw[←e4]
   match j,l with
   | 0,l=>cases l;exact Z
   | 1,l=>cases l;exact Y
   | 2,l=>cases l;exact T
   | 3,l=>cases l;exact U
   | _+4,l=>cases l
  have aa:Inhabited (Ent×EV):=⟨(⟨0,0,[],[]⟩,(.int .i64 0,.int .i64 0))⟩;obtain⟨f,C⟩:=choose_lt G;have y:∀i e,((List.range n).map fun i=>(f i).1)[i]?=some e→i<n∧e=(f i).1:=fun i e b=>by
   rw[List.getElem?_map,Option.map_eq_some_iff]at b;obtain⟨j,N,rfl⟩:=b;obtain⟨I,D⟩:=List.getElem?_eq_some_iff.1 N;have E:j=i:=by simpa using D.symm
   subst E;exact⟨by simpa using I,rfl⟩
  have q:∀i e,((List.range n).map fun i=>(f i).2)[i]?=some e→e=(f i).2:=fun i e b=>by
   rw[List.getElem?_map,Option.map_eq_some_iff]at b;obtain⟨j,N,rfl⟩:=b;obtain⟨I,D⟩:=List.getElem?_eq_some_iff.1 N;have E:j=i:=by simpa using D.symm
   rw[E]
  refine⟨some ⟨g,o,none⟩,n,c,(List.range n).map fun i=>(f i).1,(List.range n).map fun i=>(f i).2,H,⟨by simp,ents_holds (by simp) (by simp) fun i e v b P j u l=>?_,fun i e v b P=>?_⟩,by simpa using F,fun e b=>?_⟩
  ·obtain⟨r,rfl⟩:=y i e b;rw[q i v P]at l;exact(C i r).2.1 j u l
  ·obtain⟨r,rfl⟩:=y i e b;rw[q i v P];exact(C i r).1
  ·obtain⟨i,r,rfl⟩:=List.mem_map.1 b;exact(C i (by simpa using r)).2.2
theorem steps5_arg {fuel:Nat}{d:DataW H}{ps:List MemPlace}{a:Option Addr}{c r:Nat}(Z:DataW.trod enc prog W 0 (fun _=>true) true fuel 74 [.slice a c r]=some (d,ps))(hw:∀n∈d.weights prog 74,n≤reachBytes) :
  ∃l,Steps5 W a c l∧c≤140737488355328:=by
 rcases open_recs underlying74 underlying80 (by kernel_rfl) (by kernel_rfl) Z hw with⟨rfl,rfl⟩|⟨x,rfl,p,b⟩
 ·exact⟨[],⟨rfl,.inl rfl⟩,by decide⟩
 ·rw[show prog.bytesOf 80=96 by kernel_rfl]at p;have m:c≤140737488355328:=by unfold reachBytes at p;omega
  by_cases U:c=0
  ·subst U;exact⟨[],⟨rfl,.inl rfl⟩,m⟩
  obtain⟨g,o,sp⟩:=x;have D:sp=none:=by
   obtain⟨v,_,_,_,V,-⟩:=b 0 (by omega) 0 _ rfl;have:=World.cell?_spot V;simpa[Addr.add]using this
  subst D;have q:∀i,i<c→∃s:zEJ,Step5At W g (o+i*6) s:=fun i K=>by
   have T:∀j,(⟨g,o,none⟩:Addr).add (i*6+j)=⟨g,o+i*6+j,none⟩:=fun j=>by rw[addr_at,Nat.add_assoc]
   have b:=fun j t h=>T j▸b i K j t h;obtain⟨k,Q,wk⟩:=zEw underlying3 (b 0 _ rfl);obtain⟨x,O,wa⟩:=zEw underlying3 (b 1 _ rfl);obtain⟨y,P,wb⟩:=zEw underlying3 (b 2 _ rfl);obtain⟨pl,nl,R,es,vs,L,Y,wl,I⟩:=field_ents (b 3 _ rfl);obtain⟨pn,nn,S,ln,M,hn,wn,J⟩:=field_ints (b 4 _ rfl);obtain⟨pd,nd,cd,ld,N,X,wd⟩:=field_bytes (b 5 _ rfl);have E:=bounds_i64 wk;have F:=bounds_i64 wa;have b3:=bounds_i64 wb;exact⟨⟨k,x,y,pl,nl,R,pn,nn,S,pd,nd,cd,es,vs,ln,ld⟩,⟨Q,O,P,L,M,N,Y,hn,X,⟨E.1,E.2⟩,⟨F.1,F.2⟩,⟨b3.1,b3.2⟩,wn,wd.1,wl,J,I⟩⟩
  have aa:Inhabited zEJ:=⟨⟨0,0,0,none,0,0,none,0,0,none,0,0,[],[],[],[]⟩⟩;obtain⟨f,z⟩:=choose_lt q;refine⟨(List.range c).map f,⟨by simp,.inr ⟨g,o,rfl,fun i s G=>?_⟩⟩,m⟩;rw[List.getElem?_map,Option.map_eq_some_iff]at G;obtain⟨j,hj,rfl⟩:=G;obtain⟨A,B⟩:=List.getElem?_eq_some_iff.1 hj;have C:j=i:=by simpa using B.symm
  subst C;exact z j (by simpa using A)
end
end Go.Proofs.YtapfnehdgailmaaGreat
namespace Go.Proofs.YtapfnehdgailmaaGreat
open Go.RowKit Go.Sat Go.Maps
def zEJ.light (s:zEJ):Prop:=s.data.length≤6000∧s.nodes.length≤6000∧s.es.length≤1200∧∀e∈s.es,e.data.length≤6000∧e.nodes.length≤6000
def wt5 (s:zEJ):Nat:=5+s.data.length+s.nodes.length+zBO s.es
def wts (l:List zEJ):Nat:=(l.map wt5).sum
theorem wts_succ {l:List zEJ}{k:Nat}{s:zEJ}(h:l[k]?=some s):wts (l.take (k+1))=wts (l.take k)+wt5 s:=by
 obtain⟨b,rfl⟩:=List.getElem?_eq_some_iff.1 h;unfold wts;rw[List.take_succ_eq_append_getElem b,List.map_append,List.sum_append];simp
theorem entsW_succ {l:List Ent}{k:Nat}{e:Ent}(h:l[k]?=some e):zBO (l.take (k+1))=zBO (l.take k)+entW e:=by
 obtain⟨b,rfl⟩:=List.getElem?_eq_some_iff.1 h;rw[List.take_succ_eq_append_getElem b,zF9];simp[zBO]
theorem wts_le (l:List zEJ){k m:Nat}(h:k≤m):wts (l.take k)≤wts (l.take m):=by
 have e:l.take k=(l.take m).take k:=by rw[List.take_take,Nat.min_eq_left h]
 have b:l.take m=(l.take m).take k++(l.take m).drop k:=(List.take_append_drop _ _).symm;unfold wts;rw[e]
 conv=>rhs;rw[b]
 rw[List.map_append,List.sum_append];omega
def Light6 (l:List zEJ)(b:Bool):Prop:=b=false→(∀i s,i<80→l[i]?=some s→s.light)∧wts (l.take 80)≤6000
def HeavyTold6 (w:World)(l:List zEJ)(e:Ending)(w':World):Prop:=∃hv,e=.returned (.bool hv)∧Light6 l hv∧∃q,w'=w.drewN q
theorem heavy6_calls {w:World}{p:Option Addr}{n c:Nat}{l:List zEJ}(hx:Steps5 w p n l)(hn:n≤140737488355328) :
  Calls prog 39 #[.slice p n c] w (HeavyTold6 w l):=by
 have Hx:=zh hx;clear hx
 go_enter func39,ntmps39
 go_wp2_with fail
 go_loopw [3,4,5] (fun a i _ wr=>∃k x q:Nat,k≤n∧k≤80∧i=.int .i64 k∧a=.int .i64 x∧x≤6000∧wts (l.take k)≤x∧(∀i s,i<k→l[i]?=some s→s.light)∧wr=w.drewN q) (fun _ i _ _=>n-(intOf i).toNat)
 case atStart=>exact⟨0,0,0,Nat.zero_le _,by omega,rfl,rfl,by omega,Nat.le_refl _,fun i s h=>by omega,rfl⟩
 case round =>
  obtain⟨k,x,q,hk,aq,rfl,rfl,ak,aa,C,rfl⟩:=hrel;have G:=zh aa;clear aa;have z:=zh C;clear C
  by_cases av:k<n
  ·by_cases ap:k<80
   ·have Y:=Hx.o.1;have B:k<l.length:=by omega
    obtain⟨s,D⟩:∃s,l[k]?=some s:=⟨_,List.getElem?_eq_getElem B⟩;rcases Hx.o.2 with h0|⟨g,o,rfl,V⟩
    ·rw[h0]at B;simp at B
    have m:=V k s D;obtain⟨-,-,-,al,am,an,-⟩:=m.ok;have c3:w.cell? ⟨g,o+k*6+3,none⟩=some (.slice s.pl s.nl s.cl):=m.c3;have c4:w.cell? ⟨g,o+k*6+4,none⟩=some (.slice s.pn s.nn s.cn):=m.c4;have c5:w.cell? ⟨g,o+k*6+5,none⟩=some (.slice s.pd s.nd s.cd):=m.c5;have J:s.nd=s.data.length:=by obtain⟨_,_,e⟩:=m.hd.slice;simp only[Value.slice.injEq]at e;exact e.2.1
    have M:s.nn=s.nodes.length:=by obtain⟨_,_,e⟩:=m.hn.slice;simp only[Value.slice.injEq]at e;exact e.2.1
    have L:s.nl=s.es.length:=by obtain⟨-,⟨-,_,_,e,-⟩,-⟩:=m.he;simp only[Value.slice.injEq]at e;exact e.2.1
    have E:=zh m.he;have Hs:=zh D;have Q:=zh J;have R:=zh M;have F:=zh L;rw[←M]at al;rw[←J]at am;rw[←L]at an;clear m V D B J M L Y;generalize ah:s.nd=nd at *;generalize ai:s.nn=nn at *;generalize U:s.nl=nl at *;have ao:=zh U;clear ah ai U;go_wp2_with fail
    go_quiet (fail)
    go_wp2_with fail;rw[World.drewN_drewN]
    go_loopw [3,5] (fun a i wr=>∃j y q:Nat,j≤nl∧i=.int .i64 j∧a=.int .i64 y∧5*j≤y∧nd+nn≤y∧y≤300000000000000∧x+5+nd+nn+zBO (s.es.take j)≤y∧(∀i e,i<j→s.es[i]?=some e→e.data.length≤6000∧e.nodes.length≤6000)∧wr=w.drewN q) (fun _ i _=>nl-(intOf i).toNat)
    case atStart=>exact⟨0,x+5+nd+nn,_,Nat.zero_le _,rfl,by go_num,by omega,by omega,by omega,Nat.le_refl _,fun i e h=>by omega,rfl⟩
    case round =>
     obtain⟨j,y,q',hj,rfl,rfl,aw,ax,ay,ac,X,rfl⟩:=hrel;have S:=zh ac;clear ac;have P:=zh X;clear X
     by_cases aj:j<nl
     ·have I:j<s.es.length:=by rw[←F.o];exact aj
      have A:=List.getElem?_eq_getElem I;obtain⟨b2,o2,v,K,⟨W,Z,ar,au⟩,-,-,-,d2,d3⟩:=E.o.ent I;obtain⟨p1,c1,e1⟩:=W.slice;obtain⟨p2,c2,e2⟩:=Z.slice;rw[e1]at d2;rw[e2]at d3;have ag:=c3;rw[K]at ag;have ad:=zh (entsW_succ A);have He:=zh A;clear A e1 e2 W Z K c3;generalize s.es[j]=ee at *;generalize T:ee.data.length=m1 at *;generalize N:ee.nodes.length=m2 at *;have H1:=zh T;have H2:=zh N;have af:=zW (x+5+nd+nn+zBO (s.es.take (j+1))≤y+5+m1+m2) (by
       have a:=S.o;have b:=ad.o;unfold entW at b;omega)
      clear T N I
      by_cases ab:y+5+m1+m2≤6000
      ·have r:=zW (∀i e,i<j+1→s.es[i]?=some e→e.data.length≤6000∧e.nodes.length≤6000) (fun i e O A=>by
        by_cases H:i<j
        ·exact P.o i e H A
        ·obtain rfl:i=j:=by omega
         rw[He.o]at A;cases A;have T:=H1.o;have N:=H2.o;omega)
       go_wp2_with fail
       go_quiet (fail)
       go_wp2_with fail;go_roundw
       case rel=>exact⟨j+1,y+5+m1+m2,_,by omega,by go_num,by go_num,by omega,by omega,by omega,af.o,r.o,rfl⟩
       case measure=>simp[intOf];omega
      ·go_wp2_with fail
       go_quiet (fail)
       go_wp2_with fail;go_ret;exact⟨true,rfl,(fun h=>by cases h),_,rfl⟩
     ·by_cases ab:y≤6000
      ·have r:=zW (∀i t,i<k+1→l[i]?=some t→t.light) (fun i t O ht=>by
        by_cases H:i<k
        ·exact z.o i t H ht
        ·obtain rfl:i=k:=by omega
         rw[Hs.o]at ht;cases ht;have T:=Q.o;have N:=R.o;have h3:=F.o;refine⟨by omega,by omega,by omega,fun e A=>?_⟩;obtain⟨i,O,rfl⟩:=List.getElem_of_mem A;exact P.o i _ (by omega) (List.getElem?_eq_getElem O))
       have ae:=zW (wts (l.take (k+1))≤y) (by
        have a:=S.o;have b:=wts_succ Hs.o;have c:=F.o;have d:=Q.o;have e:=R.o;have f:=G.o;rw[List.take_of_length_le (by omega)]at a;unfold wt5 at b;omega)
       go_wp2_with fail;go_roundw
       case rel=>exact⟨k+1,y,q',by omega,by omega,by go_num,rfl,ab,ae.o,r.o,rfl⟩
       case measure=>simp[intOf];omega
      ·go_wp2_with fail;go_ret;exact⟨true,rfl,(fun h=>by cases h),q',rfl⟩
   ·obtain rfl:k=80:=by omega
    have Hf:=zW (Light6 l false) fun _=>⟨fun i s O D=>z.o i s O D,Nat.le_trans G.o ak⟩;go_wp2_with fail;go_ret;exact⟨false,rfl,Hf.o,q,rfl⟩
  ·have Hf:=zW (Light6 l false) (fun _=>⟨fun i s O D=>by
    have T:=(List.getElem?_eq_some_iff.1 D).1;have N:=Hx.o.1;exact z.o i s (by omega) D,by
    have N:=Hx.o.1;have h3:=G.o;rw[List.take_of_length_le (by omega)]at h3;rw[List.take_of_length_le (by omega)];omega⟩)
   go_wp2_with fail;go_ret;exact⟨false,rfl,Hf.o,q,rfl⟩
structure zEk (A:Nat)(M:zAH)(D DN:zAA):Prop where
 p:zCZ zDu A M D
 q:zCZ zDu A M DN
 fuse:DN.fuse=none
 last:M.last≤4*A
def KOut (A:Nat)(M:zAH)(D':zAA)(M':zAH)(DN':zAA)(N':zAH)(e f:Nat)(Ms:List zAH):Prop :=
 (e=1∧f=1∧M'=M∧N'=M∧zEk A M D' DN')∨(e=0∧f=0∧M'=N'∧zEk A N' D' DN') ∨
 (e=9∧f=0∧AftJ zDu A (fun N=>N=M∨N∈Ms∨N=N') D')
section
variable {A c B:Nat} {M M':zAH} {D DN:zAA} {P Q:zAH→Prop} {C:Prop}
theorem AftJ.more2 {g:List Int}(h:AftJ g A P D)(c:Nat):AftJ g (A+c) P D:=⟨h.srt,h.room,by have:=h.used;omega,h.cnt,fun k=>by
 obtain⟨N,a,m,M0,b,f,i,j,l,d⟩:=h.says k;exact⟨N,a,m,M0,b,f,i,j,l,fun e=>⟨(d e).1,by have:=(d e).2;omega⟩⟩⟩
theorem zEk.more (h:zEk A M D DN)(c:Nat):zEk (A+c) M D DN:=⟨h.p.more c,h.q.more c,h.fuse,by have:=h.last;omega⟩
theorem zEk.burn (h:zEk A M D DN)(f:Int):zEk A M (D.setFuse f) DN:=⟨⟨h.p.ex,h.p.room,h.p.ok,h.p.ents,h.p.alive⟩,h.q,h.fuse,h.last⟩
theorem kout_of {f d:zDS}(h:zEk A M D DN)(m:Ends C zDu A c M D M' P f)(r:Ends C zDu A c M DN M' Q d)(y:c≤B)(t:M'.last≤4*(A+B))(q:∀N,P N→N=M∨N=M') :
  KOut (A+B) M f.disk f.jou d.disk d.jou f.err d.err []:=by
 obtain⟨x,rfl⟩:∃x,B=c+x:=⟨B-c,by omega⟩;rcases r with⟨g,rfl⟩|⟨g,l,i,n,o⟩|⟨-,-,s,-⟩
 ·rcases m with⟨-,rfl⟩|⟨b,-⟩|⟨b,-⟩
  ·exact .inl ⟨rfl,rfl,rfl,rfl,h.more _⟩
  ·exact absurd g b
  ·exact absurd g b
 ·rcases m with⟨b,-⟩|⟨-,j,k,v,-⟩|⟨-,j,-,-,k⟩
  ·exact absurd b g
  ·refine .inr (.inl ⟨j,l,k.trans i.symm,?_⟩);rw[i];exact⟨by rw[←Nat.add_assoc];exact v.more x,by rw[←Nat.add_assoc];exact n.more x,o h.fuse,t⟩
  ·refine .inr (.inr ⟨j,l,?_⟩);rw[←Nat.add_assoc];refine(k.more2 x).mono fun N p=>?_;rw[i];exact(q N p).imp id .inr
 ·exact absurd h.fuse s
theorem kout_term (h:zEk A M D DN)(t v:Int)(b:5≤B)(c:A+B≤6100):KOut (A+B) M (zA2 [97] D M t v).disk (zA2 [97] D M t v).jou (zA2 [97] DN M t v).disk (zA2 [97] DN M t v).jou (zA2 [97] D M t v).err (zA2 [97] DN M t v).err [] :=
 kout_of h (live_term h.p t v (by omega)) (live_term h.q t v (by omega)) b (by show M.last≤_;have:=h.last;omega) fun _ h=>h
theorem kout_cut (h:zEk A M D DN)(i:Int)(b:5≤B)(f:A+B≤6100):KOut (A+B) M (zBW [97] D M i).disk (zBW [97] D M i).jou (zBW [97] DN M i).disk (zBW [97] DN M i).jou (zBW [97] D M i).err (zBW [97] DN M i).err [] :=
 kout_of h (live_cut h.p i (by omega)) (live_cut h.q i (by omega)) b (by
  have c:=h.last;have d:M.last=M.number+M.entries.length:=rfl
  show M.number+(M.entries.take _).length≤_
  rw[List.length_take];omega) fun _ h=>h
theorem rebase_last (M:zAH)(s:zC8):(M.rebase s).last≤max M.last s.number:=by
 have b:M.last=M.number+M.entries.length:=rfl
 show s.number+(if M.number<s.number∧M.termAt s.number=some s.term then M.entries.drop (s.number-M.number)else []).length≤_
 split
 ·next e =>
  have:=zGe e.2;rw[List.length_drop];omega
 ·simp only[List.length_nil];omega
theorem kout_compact (h:zEk A M D DN)(i:Int){b:Bs}(c:b.length≤6000)(k:i≤(M.last:Int)+6)(j:5≤B)(g:A+B≤6100):KOut (A+B) M (zAW [97] D M i b).disk (zAW [97] D M i b).jou (zAW [97] DN M i b).disk (zAW [97] DN M i b).jou (zAW [97] D M i b).err (zAW [97] DN M i b).err [] :=
 kout_of h (live_compact h.p i c (by omega)) (live_compact h.q i c (by omega)) (Nat.zero_le _) (by
  have f:=h.last;have d:=rebase_last M ⟨i.toNat,(M.termAt i).getD 0,(M.grpIn (i.toNat-M.number)).1,b⟩;dsimp only at d;omega) fun _ h=>h
theorem kout_install (h:zEk A M D DN)(i t:Int){ns:List Int}{b:Bs}(c:b.length≤6000)(k:i≤(M.last:Int)+6)(j:5≤B)(g:A+B≤6100):KOut (A+B) M (zAa [97] D M i t ns b).disk (zAa [97] D M i t ns b).jou (zAa [97] DN M i t ns b).disk (zAa [97] DN M i t ns b).jou (zAa [97] D M i t ns b).err (zAa [97] DN M i t ns b).err [] :=
 kout_of h (live_install h.p i t c (by omega)) (live_install h.q i t c (by omega)) (Nat.zero_le _) (by
  have f:=h.last;have d:=rebase_last M ⟨i.toNat,t,ns,b⟩;dsimp only at d;omega) fun _ h=>h
theorem kq_one {e:Ent}(h:zCZ zDu A M DN)(f:DN.fuse=none)(m:M.last+1≤1099511627776)(k:zAt e=true)(j:A+entW e≤6100) :
  (zAZ [97] DN M [e]).jou={M with entries:=M.entries++[e] }∧zCZ zDu (A+entW e) {M with entries:=M.entries++[e] } (zAZ [97] DN M [e]).disk∧(zAZ [97] DN M [e]).disk.fuse=none:=by
 rcases zFn (l:=[e]) (c:=entW e) h (by simp[zBO]) j with⟨b,-⟩|⟨-,-,d,g,i⟩|⟨-,-,d,-⟩
 ·rcases b with b|b
  ·rw[List.length_cons,List.length_nil]at b;omega
  ·simp[k]at b
 ·exact⟨d,g,i f⟩
 ·exact absurd f d
theorem kout_append {l:List Ent}{DN':zAA}(h:zEk A M D DN)(f:∀e∈l,zAt e=true)(v:zBO l+5≤B)(t:A+B≤6100)(g:zCZ zDu (A+zBO l) {M with entries:=M.entries++l} DN')(hf:DN'.fuse=none) :
  KOut (A+B) M (zAZ [97] D M l).disk (zAZ [97] D M l).jou DN' {M with entries:=M.entries++l} (zAZ [97] D M l).err 0 ((List.range l.length).map fun k=>{M with entries:=M.entries++l.take (k+1) }):=by
 obtain⟨x,rfl⟩:∃x,B=zBO l+x:=⟨B-zBO l,by omega⟩;have q:=h.last;have m:∀es:List Ent,es.length≤zBO es:=fun es=>by
  unfold zBO
  induction es with
  | nil=>exact Nat.le_refl _
  | cons e r ih =>
   rw[List.map_cons,List.sum_cons,List.length_cons];have:5≤entW e:=by unfold entW;omega
   omega
 have s:=m l;have b:({M with entries:=M.entries++l}:zAH).last≤4*(A+(zBO l+x)):=by
  show M.number+(M.entries++l).length≤_
  rw[List.length_append];have:M.last=M.number+M.entries.length:=rfl;omega
 rcases zFn (l:=l) (c:=zBO l) h.p (Nat.le_refl _) (by omega)with⟨d,-⟩|⟨-,i,j,o,-⟩|⟨-,i,-,-,j⟩
 ·rcases d with d|d
  ·omega
  ·rw[List.all_eq_true.2 f]at d;cases d
 ·refine .inr (.inl ⟨i,rfl,j,?_⟩);exact⟨by rw[←Nat.add_assoc];exact o.more x,by rw[←Nat.add_assoc];exact g.more x,hf,b⟩
 ·refine .inr (.inr ⟨i,rfl,?_⟩);rw[←Nat.add_assoc];refine(j.more2 x).mono fun N g=>?_;obtain⟨w,rfl⟩:=g;cases w with
  | zero=>exact .inl (by rw[List.take_zero,List.append_nil])
  | succ w =>
   by_cases n:w<l.length
   ·exact .inr (.inl (List.mem_map.2 ⟨w,List.mem_range.2 n,rfl⟩))
   ·exact .inr (.inr (by rw[List.take_of_length_le (by omega)]))
theorem kout_refuse {l:List Ent}(h:zEk A M D DN)(b:l.all zAt=false)(g:zBO l≤B)(f:A+B≤6100) :
  KOut (A+B) M (zAZ [97] D M l).disk (zAZ [97] D M l).jou DN M (zAZ [97] D M l).err 1 []:=by
 rcases zFn (l:=l) (c:=zBO l) h.p (Nat.le_refl _) (by omega)with⟨-,d⟩|⟨d,-⟩|⟨d,-⟩
 ·rw[d];exact .inl ⟨rfl,rfl,rfl,rfl,h.more _⟩
 ·exact absurd (.inr b) d
 ·exact absurd (.inr b) d
theorem k_start:zEk 0 (zAH.none0 zDu) (zCW 1048576 [97] zDu) (zCW 1048576 [97] zDu):=⟨live_start,live_start,rfl,Nat.le_refl _⟩
end
structure KSt (W1 W:World)(j d x rq pb qb g bs:Nat)(OP OQ OB:Obj)(v:Value)(M0:zAH)(Ms:List zAH)(D:zAA)(M:zAH)(DN:zAA)(N:zAH)(S:Nat→Prop):Prop where
 pr:zA8 W1 W j d x rq D M DN N (fun k=>(((k=pb∨k=qb)∨k=g)∨k=bs)∨v.ownBlock=some k) S
 p:W.heap[pb]?=some OP
 q:W.heap[qb]?=some OQ
 b:W.heap[bs]?=some OB
 s0:zDp W rq S (.slice (some ⟨g,0,none⟩) 1 1) [M0]
 s1:zDp W rq S v Ms
 dis:∀k,S k→¬((((k=pb∨k=qb)∨k=g)∨k=bs)∨v.ownBlock=some k)
section
variable {W1 W W2:World} {j d x rq pb qb g bs:Nat} {OP OQ OB:Obj} {v:Value} {M0:zAH} {Ms:List zAH} {D D':zAA} {M M':zAH} {DN DN':zAA} {N N':zAH} {S:Nat→Prop}
theorem KSt.told (h:KSt W1 W j d x rq pb qb g bs OP OQ OB v M0 Ms D M DN N S)(i:zA8 W1 W2 j d x rq D' M' DN' N' (fun k=>(((k=pb∨k=qb)∨k=g)∨k=bs)∨v.ownBlock=some k) S)
  (f:Same (fun k=>((((k=pb∨k=qb)∨k=g)∨k=bs)∨v.ownBlock=some k)∨S k) W W2):KSt W1 W2 j d x rq pb qb g bs OP OQ OB v M0 Ms D' M' DN' N' S where
 pr:=i
 p:=(f pb (.inl (.inl (.inl (.inl (.inl rfl)))))).trans h.p
 q:=(f qb (.inl (.inl (.inl (.inl (.inr rfl)))))).trans h.q
 b:=(f bs (.inl (.inl (.inr rfl)))).trans h.b
 s0:=h.s0.keep (fun k c=>f k (c.elim .inr fun e=>.inl (.inl (.inl (.inr (Option.some.inj e).symm))))) fun k c=>i.lt (.inr c)
 s1:=h.s1.keep (fun k c=>f k (c.elim .inr fun e=>.inl (.inr e))) fun k c=>i.lt (.inr c)
 dis:=h.dis
theorem KSt.next (h:KSt W1 W j d x rq pb qb g bs OP OQ OB v M0 Ms D M DN N S)(b:Below W.heap.size W W2):KSt W1 W2 j d x rq pb qb g bs OP OQ OB v M0 Ms D M DN N S :=
 h.told (h.pr.next b) fun k c=>b.block k (h.pr.lt c)
theorem kst_term (h:KSt W1 W j d x rq pb qb g bs OP OQ OB v M0 Ms D M DN N S)(t u:Int)(f:-9223372036854775808≤t∧t≤9223372036854775807)(i:-9223372036854775808≤u∧u≤9223372036854775807) :
  Calls prog 27 #[.pointer (some ⟨j,0,none⟩),.int .i64 t,.int .i64 u] W fun e w'=>e=.returned (.int .i64 ((zA2 [97] D M t u).err:Int))∧KSt W1 w' j d x rq pb qb g bs OP OQ OB v M0 Ms (zA2 [97] D M t u).disk (zA2 [97] D M t u).jou DN N S :=
 (pk_term h.pr t u f i).mono fun _ _ ⟨a,b,c⟩=>⟨a,h.told b c⟩
theorem kst_rterm (h:KSt W1 W j d x rq pb qb g bs OP OQ OB v M0 Ms D M DN N S)(t u:Int)(f:-9223372036854775808≤t∧t≤9223372036854775807)(i:-9223372036854775808≤u∧u≤9223372036854775807) :
  Calls prog 45 #[.pointer (some ⟨x,0,none⟩),.int .i64 t,.int .i64 u] W fun e w'=>e=.returned (.int .i64 ((zA2 [97] DN N t u).err:Int))∧KSt W1 w' j d x rq pb qb g bs OP OQ OB v M0 Ms D M (zA2 [97] DN N t u).disk (zA2 [97] DN N t u).jou S :=
 (pk_rterm h.pr t u f i).mono fun _ _ ⟨a,b,c⟩=>⟨a,h.told b c⟩
theorem kst_cut (h:KSt W1 W j d x rq pb qb g bs OP OQ OB v M0 Ms D M DN N S)(i:Int)(f:-9223372036854775808≤i∧i≤9223372036854775807) :
  Calls prog 23 #[.pointer (some ⟨j,0,none⟩),.int .i64 i] W fun e w'=>e=.returned (.int .i64 ((zBW [97] D M i).err:Int))∧KSt W1 w' j d x rq pb qb g bs OP OQ OB v M0 Ms (zBW [97] D M i).disk (zBW [97] D M i).jou DN N S :=
 (pk_cut h.pr i f).mono fun _ _ ⟨a,b,c⟩=>⟨a,h.told b c⟩
theorem kst_rcut (h:KSt W1 W j d x rq pb qb g bs OP OQ OB v M0 Ms D M DN N S)(i:Int)(f:-9223372036854775808≤i∧i≤9223372036854775807) :
  Calls prog 46 #[.pointer (some ⟨x,0,none⟩),.int .i64 i] W fun e w'=>e=.returned (.int .i64 ((zBW [97] DN N i).err:Int))∧KSt W1 w' j d x rq pb qb g bs OP OQ OB v M0 Ms D M (zBW [97] DN N i).disk (zBW [97] DN N i).jou S :=
 (pk_rcut h.pr i f).mono fun _ _ ⟨a,b,c⟩=>⟨a,h.told b c⟩
theorem kst_compact (h:KSt W1 W j d x rq pb qb g bs OP OQ OB v M0 Ms D M DN N S)(l:M.entries.length≤1000000)(i:Int)(f:-9223372036854775808≤i∧i≤9223372036854775807){p:Option Addr}{n c:Nat}{b:Bs}(hn:b.length=n)(k:n≤140737488355328)(m:zAY W1 (.slice p n c) b) :
  Calls prog 30 #[.pointer (some ⟨j,0,none⟩),.int .i64 i,.slice p n c] W fun e w'=>e=.returned (.int .i64 ((zAW [97] D M i b).err:Int))∧KSt W1 w' j d x rq pb qb g bs OP OQ OB v M0 Ms (zAW [97] D M i b).disk (zAW [97] D M i b).jou DN N S :=
 (pk_compact h.pr l i f hn k m).mono fun _ _ ⟨a,b,c⟩=>⟨a,h.told b c⟩
theorem kst_rcompact (h:KSt W1 W j d x rq pb qb g bs OP OQ OB v M0 Ms D M DN N S)(l:N.entries.length≤1000000)(i:Int)(f:-9223372036854775808≤i∧i≤9223372036854775807){p:Option Addr}{n c:Nat}{b:Bs}(hn:b.length=n)(k:n≤140737488355328)(m:zAY W1 (.slice p n c) b) :
  Calls prog 47 #[.pointer (some ⟨x,0,none⟩),.int .i64 i,.slice p n c] W fun e w'=>e=.returned (.int .i64 ((zAW [97] DN N i b).err:Int))∧KSt W1 w' j d x rq pb qb g bs OP OQ OB v M0 Ms D M (zAW [97] DN N i b).disk (zAW [97] DN N i b).jou S :=
 (pk_rcompact h.pr l i f hn k m).mono fun _ _ ⟨a,b,c⟩=>⟨a,h.told b c⟩
theorem kst_install (h:KSt W1 W j d x rq pb qb g bs OP OQ OB v M0 Ms D M DN N S)(z:M.entries.length≤1000000)(i t:Int)(s:-9223372036854775808≤i∧i≤9223372036854775807){p q:Option Addr}{m e n c:Nat}{f:List Int}{b:Bs}(hn:b.length=n)(y:n≤140737488355328)(l:f.length=m)(k:m≤1099511627776)(o:zBg W1 (.slice q m e) f)(A:zAY W1 (.slice p n c) b) :
  Calls prog 38 #[.pointer (some ⟨j,0,none⟩),.int .i64 i,.int .i64 t,.slice q m e,.slice p n c] W fun r w'=>r=.returned (.int .i64 ((zAa [97] D M i t f b).err:Int))∧KSt W1 w' j d x rq pb qb g bs OP OQ OB v M0 Ms (zAa [97] D M i t f b).disk (zAa [97] D M i t f b).jou DN N S :=
 (pk_install h.pr z i t s hn y l k o A).mono fun _ _ ⟨a,b,c⟩=>⟨a,h.told b c⟩
theorem kst_rinstall (h:KSt W1 W j d x rq pb qb g bs OP OQ OB v M0 Ms D M DN N S)(s:N.entries.length≤1000000)(i t:Int)(o:-9223372036854775808≤i∧i≤9223372036854775807){p q:Option Addr}{m e n c:Nat}{f:List Int}{b:Bs}(hn:b.length=n)(k:f.length≤1099511627776)(l:zBg W1 (.slice q m e) f)(y:zAY W1 (.slice p n c) b) :
  Calls prog 48 #[.pointer (some ⟨x,0,none⟩),.int .i64 i,.int .i64 t,.slice q m e,.slice p n c] W fun r w'=>r=.returned (.int .i64 ((zAa [97] DN N i t f b).err:Int))∧KSt W1 w' j d x rq pb qb g bs OP OQ OB v M0 Ms D M (zAa [97] DN N i t f b).disk (zAa [97] DN N i t f b).jou S :=
 (pk_rinstall h.pr s i t o hn k l y).mono fun _ _ ⟨a,b,c⟩=>⟨a,h.told b c⟩
end
structure DSt (W1 W:World)(j d x rq pb qb:Nat)(OP OQ:Obj)(D:zAA)(M:zAH)(DN:zAA)(N:zAH)(R S:Nat→Prop):Prop where
 pr:zA8 W1 W j d x rq D M DN N (fun k=>(k=pb∨k=qb)∨R k) S
 p:W.heap[pb]?=some OP
 q:W.heap[qb]?=some OQ
 dis:∀k,S k→¬((k=pb∨k=qb)∨R k)
 rge:∀k,R k→W1.heap.size≤k∧k≠pb∧k≠qb
section
variable {W1 W W2:World} {j d x rq pb qb g bs:Nat} {OP OQ OB:Obj} {v v2 v3:Value} {M0:zAH} {Ns Ms:List zAH} {D:zAA} {M:zAH} {DN:zAA} {N:zAH} {R S:Nat→Prop}
theorem KSt.dst (h:KSt W1 W j d x rq pb qb g bs OP OQ OB v M0 Ms D M DN N S)(b:W1.heap.size≤g∧g≠pb∧g≠qb)(f:∀k,v.ownBlock=some k→W1.heap.size≤k∧k≠pb∧k≠qb):DSt W1 W j d x rq pb qb OP OQ D M DN N (fun k=>k=g∨v.ownBlock=some k) S where
 pr:=h.pr.less (fun k e=>by
  rcases e with e|e|e
  ·exact .inl (.inl (.inl e))
  ·exact .inl (.inl (.inr e))
  ·exact .inr e) fun k e=>e
 p:=h.p
 q:=h.q
 dis:=fun k c e=>h.dis k c (by
  rcases e with e|e|e
  ·exact .inl (.inl (.inl e))
  ·exact .inl (.inl (.inr e))
  ·exact .inr e)
 rge:=fun k e=>by
  rcases e with e|e
  ·rw[e];exact b
  ·exact f k e
theorem DSt.next (h:DSt W1 W j d x rq pb qb OP OQ D M DN N R S)(b:Below W.heap.size W W2):DSt W1 W2 j d x rq pb qb OP OQ D M DN N R S where
 pr:=h.pr.next b
 p:=(b.block pb (h.pr.lt (.inl (.inl (.inl rfl))))).trans h.p
 q:=(b.block qb (h.pr.lt (.inl (.inl (.inr rfl))))).trans h.q
 dis:=h.dis
 rge:=h.rge
theorem zFX (h:DSt W1 W j d x rq pb qb OP OQ D M DN N R S)(f:zDp W rq S v Ns)(c:Below W.heap.size W W2):zDp W2 rq S v Ns :=
 f.keep (fun k b=>c.block k (b.elim (fun e=>h.pr.lt (.inr e)) fun e=>f.lt e)) fun k b=>Nat.lt_of_lt_of_le (h.pr.lt (.inr b)) c.size
theorem dst_shot (h:DSt W1 W j d x rq pb qb OP OQ D M DN N R S) :
  Calls prog 41 #[.pointer (some ⟨x,0,none⟩)] W fun e w'=>∃y b,e=.returned (.pointer (some ⟨y,0,none⟩))∧DSt W1 w' j d x rq pb qb OP OQ D M DN N R b∧zA4 b w' y rq sA N∧(∀k,S k→b k)∧Below W.heap.size W w' :=
 (pk_shot h.pr h.dis).mono fun _ w' ⟨y,b,g,i,hS,hn,c,f⟩=>⟨y,b,g,⟨i,(h.next c).p,(h.next c).q,f,h.rge⟩,hn,hS,c⟩
theorem dst_lit (h:DSt W1 W j d x rq pb qb OP OQ D M DN N R S)(y:Nat):DSt W1 (W.alloc (.cells #[.pointer (some ⟨y,0,none⟩)] 35)) j d x rq pb qb OP OQ D M DN N (fun k=>R k∨k=W.heap.size) S where
 pr:=(h.pr.box (.cells #[.pointer (some ⟨y,0,none⟩)] 35)).less (fun k e=>by
  rcases e with e|e|e
  ·exact .inl (.inl e)
  ·exact .inl (.inr e)
  ·exact .inr e) fun k e=>e
 p:=(h.next (zAC W _)).p
 q:=(h.next (zAC W _)).q
 dis:=fun k b e=>by
  have:=h.pr.lt (.inr b);rcases e with e|e|e
  ·exact h.dis k b (.inl e)
  ·exact h.dis k b (.inr e)
  ·omega
 rge:=fun k e=>by
  rcases e with e|e
  ·exact h.rge k e
  ·have c:=h.pr.bel.size;have f:=h.pr.lt (k:=pb) (.inl (.inl (.inl rfl)));have g:=h.pr.lt (k:=qb) (.inl (.inl (.inr rfl)));omega
theorem dst_grown (h:DSt W1 W j d x rq pb qb OP OQ D M DN N R S)(i:∀k,v.ownBlock=some k→R k)(O:W.grownBy W2 v.ownBlock)(s:v3.ownBlock=v.ownBlock∨∃g,v3.ownBlock=some g∧W.heap.size≤g)(m:∀k,v3.ownBlock=some k→k<W2.heap.size) :
  DSt W1 W2 j d x rq pb qb OP OQ D M DN N (fun k=>R k∨v3.ownBlock=some k) S:=by
 have o:Chg (fun k=>v.ownBlock=some k) W W2:=(Chg.of_grown O).mono fun _ _ e=>e.symm;have C:=o.size;have b:∀k,v3.ownBlock=some k→R k∨(W.heap.size≤k∧k<W2.heap.size):=fun k e=>by
  rcases s with n|⟨g,n,T⟩
  ·exact .inl (i k (n▸e))
  ·rw[n]at e;have e:=Option.some.inj e;exact .inr ⟨by omega,by rw[←e];exact m g n⟩
 have n:zA8 W1 W2 j d x rq D M DN N (fun k=>(k=pb∨k=qb)∨R k) S:=h.pr.chg o fun k e=>⟨.inr (i k e),(h.rge k (i k e)).1⟩;have A:=h.pr.lt (k:=pb) (.inl (.inl (.inl rfl)));have B:=h.pr.lt (k:=qb) (.inl (.inl (.inr rfl)));have U:=h.pr.bel.size;refine⟨?_,(o.block pb A fun e=>(h.rge pb (i pb e)).2.1 rfl).trans h.p,(o.block qb B fun e=>(h.rge qb (i qb e)).2.2 rfl).trans h.q,fun k l e=>?_,fun k e=>?_⟩
 ·-- what is new is set apart too
  obtain⟨F,y,r,G,a,l,f,hS⟩:=h.pr;obtain⟨F2,E,t,I,J,P,H,L⟩:=n;refine⟨fun k=>F k∨v3.ownBlock=some k,y,r,G.move o (fun k _ e=>⟨(f k (.inr (i k e))).1,(h.rge k (i k e)).1⟩) fun k e=>?_,a.chg o fun k e=>(f k (.inr (i k e))).2,fun k e=>⟨.inl (l k e).1,(l k e).2⟩,fun k e=>?_,fun k e=>⟨.inl (hS k e).1,(hS k e).2⟩⟩
  ·rcases e with e|e
   ·exact⟨.inl e,Nat.lt_of_lt_of_le (G.flt e) C⟩
   ·rcases b k e with c|c
    ·exact⟨.inl (f k (.inr c)).1,m k e⟩
    ·exact⟨.inr c.1,m k e⟩
  ·rcases e with e|e|e
   ·exact⟨.inl (f k (.inl e)).1,(f k (.inl e)).2⟩
   ·exact⟨.inl (f k (.inr e)).1,(f k (.inr e)).2⟩
   ·rcases b k e with c|c
    ·exact⟨.inl (f k (.inr c)).1,(f k (.inr c)).2⟩
    ·exact⟨.inr e,fun z=>by have:=a.hlt z;omega,fun z=>by have:=a.clt z;omega⟩
 ·have Q:=h.pr.lt (.inr l);rcases e with e|e|e
  ·exact h.dis k l (.inl e)
  ·exact h.dis k l (.inr e)
  ·rcases b k e with c|c
   ·exact h.dis k l (.inr c)
   ·omega
 ·rcases e with e|e
  ·exact h.rge k e
  ·rcases b k e with c|c
   ·exact h.rge k c
   ·omega
theorem zFA (h:DSt W1 W j d x rq pb qb OP OQ D M DN N R S)(p:∀k,v.ownBlock=some k→R k){m zs:List Nat}(c:m.length=Ns.length)(f:∀(i:Nat) y N,m[i]?=some y→Ns[i]?=some N→zA4 S W y rq sA N)(g:zs.length=Ms.length)(l:∀(i:Nat) y N,zs[i]?=some y→Ms[i]?=some N→zA4 S W y rq sA N)
  (b:OwnR W2 35 1 v3 (Ns.length+Ms.length) (m.map ptrV++zs.map ptrV)) (o:W.grownBy W2 v.ownBlock):zDp W2 rq S v3 (Ns++Ms) :=
 shots_grown c f g l b o fun k n=>⟨fun e=>h.dis k n (.inr (p k e)),h.pr.lt (.inr n)⟩
theorem zFW (h:zDp W rq S v Ns){k b:Nat}(c:v.ownBlock=some k){cs:Array Value}{e:TypeId}{l:Nat×Nat}(o:W.heap[b]?=some (.cells cs e l))(n:e≠35):k≠b:=fun j=>by
 obtain⟨r,p,m,q⟩:=h;rcases m.2 with⟨d,-⟩|⟨g,i,cur,d,f,-⟩
 ·rw[d]at c;cases c
 ·rw[d]at c;have c:g=k:=Option.some.inj c;rw[c,j,o]at f;have:=Option.some.inj f
  injection this with a1 a2 a3
  exact n a2
theorem shots_aside (h:DSt W1 W j d x rq pb qb OP OQ D M DN N R S)(l:∀k,v.ownBlock=some k→R k)(g:zDp W rq S v2 Ms)(f:∀k,v2.ownBlock=some k→v.ownBlock≠some k)(i:W.grownBy W2 v.ownBlock):zDp W2 rq S v2 Ms:=by
 have c:Chg (fun k=>v.ownBlock=some k) W W2:=(Chg.of_grown i).mono fun _ _ e=>e.symm;refine g.keep (fun k b=>?_) fun k b=>Nat.lt_of_lt_of_le (h.pr.lt (.inr b)) c.size;rcases b with b|b
 ·exact c.block k (h.pr.lt (.inr b)) fun e=>h.dis k b (.inr (l k e))
 ·exact c.block k (g.lt b) (f k b)
theorem dst_r1 (_h:DSt W1 W j d x rq pb qb OP OQ D M DN N (fun k=>R k∨v.ownBlock=some k) S):∀k,v.ownBlock=some k→R k∨v.ownBlock=some k:=fun _ h=>.inr h
theorem dst_r2 {n:Nat}(_h:DSt W1 W j d x rq pb qb OP OQ D M DN N (fun k=>R k∨k=n) S):∀k,(Value.slice (some ⟨n,0,none⟩) 1 1).ownBlock=some k→R k∨k=n:=fun _ b=>.inr (Option.some.inj b).symm
end
theorem holds_blk {W:World}{b:Nat}{cs:Array Value}{e:TypeId}{f:Nat×Nat}(h:W.heap[b]?=some (.cells cs e f))(xs:List Value)(size n c:Nat)(j:cs.toList=xs)(k:xs.length=n*size):zAM W size (.slice (some ⟨b,0,none⟩) n c) n xs:=by
 refine⟨k,some ⟨b,0,none⟩,c,rfl,fun e=>(by cases e),fun a g i u d=>?_⟩;cases g;rw[add_zero];refine zAG h ?_;rw[←j]at d;simpa using d
section
variable {W1 W W2:World} {j d x rq pb qb g bs:Nat} {OP OQ OB:Obj} {v:Value} {M0:zAH} {Ms:List zAH} {D D':zAA} {M M':zAH} {DN DN':zAA} {N N':zAH} {S G:Nat→Prop}
theorem kst_append (h:KSt W1 W j d x rq pb qb g bs OP OQ OB v M0 Ms D M DN N S){p:Option Addr}{n c:Nat}{es:List Ent}{vs:List EV}(k:zCb W1 (.slice p n c) es vs)(hn:n≤1000000) :
  Calls prog 22 #[.pointer (some ⟨j,0,none⟩),.slice p n c] W fun e w'=>e=.returned (.int .i64 ((zAZ [97] D M es).err:Int))∧KSt W1 w' j d x rq pb qb g bs OP OQ OB v M0 Ms (zAZ [97] D M es).disk (zAZ [97] D M es).jou DN N S :=
 (pk_p (Q:=fun e=>e=.returned (.int .i64 ((zAZ [97] D M es).err:Int))) h.pr fun _ f=>zGH f (es:=es) (vs:=vs) (fun W i _=>k.below i) hn).mono fun _ _ ⟨a,b,c⟩=>⟨a,h.told b c⟩
theorem pk_rone (h:zA8 W1 W j d x rq D M DN N G S){b:Nat}(m:G b){e:Ent}{u:EV}{s:Nat×Nat}(n:W.heap[b]?=some (.cells #[.int .i64 e.term,.int .i64 e.kind,u.1,u.2] 50 s))(v:zBS W1 e u) :
  Calls prog 44 #[.pointer (some ⟨x,0,none⟩),.slice (some ⟨b,0,none⟩) 1 1] W fun r w'=>r=.returned (.int .i64 ((zAZ [97] DN N [e]).err:Int))∧zA8 W1 w' j d x rq D M (zAZ [97] DN N [e]).disk (zAZ [97] DN N [e]).jou G S∧Same (fun k=>G k∨S k) W w' :=
 pk_r (Q:=fun r=>r=.returned (.int .i64 ((zAZ [97] DN N [e]).err:Int))) h fun q _ t y p=>(rjappend_calls t (es:=[e]) (vs:=[u]) (fun z l=>⟨rfl,holds_blk ((l.block b (zAB n) (p b m)).trans n) _ 4 1 1 (by simp[zAz,zEm]) (by simp[zAz,zEm]),fun i g B c f=>by
  cases i with
  | zero =>
   cases c;cases f;exact v.below (h.bel.trans (l.below h.bel.size fun k A e=>by have:=y k e;omega))
  | succ i=>simp at c⟩) (fun _ a o g=>by cases g;exact p b m) (by decide)).mono fun _ _ h=>⟨h.1,h.step⟩
end
def blk (n:Nat):Code→Option Code
 | .loop c=>blk n c
 | .seq a b=>match blk n a with
  | some c=>some c
  | none=>blk n b
 | .block m c=>if m=n then some (.block m c)else blk n c
 | .scope c=>blk n c
 | .cond _ a b=>match blk n a with
  | some c=>some c
  | none=>blk n b
 | _=>none
theorem wp_out {P:Program}{s:Code}{K:Act→World→Prop}{Q:Exit→Act→World→Prop}{a:Act}{w:World}(h:s.wp P (Exit.then K fun _ _ _=>False) a w):s.wp P (Exit.then K Q) a w:=by
 refine wp_mono h ?_;intro e c w' b;cases e with
 | normal=>exact b
 | outgrown=>cases b
 | exit id=>cases b
 | goto l=>cases b
 | ret=>cases b
 | panic ch=>cases b
def appM (M:zAH)(es:List Ent):zAH:={M with entries:=M.entries++es}
theorem appM_nil (M:zAH)(es:List Ent):appM M (es.take 0)=M:=by simp[appM]
def KoutW (W1:World)(j d x rq pb qb g bs:Nat)(OP OQ OB:Obj)(C:Nat)(M:zAH)(e f:Value)(v:Value)(w:World):Prop :=
 ∃(D':zAA) (M':zAH) (DN':zAA) (N':zAH) (e' f':Nat) (pv:Option Addr) (cv:Nat) (Ms:List zAH) (S':Nat→Prop),e=.int .i64 (e':Int)∧f=.int .i64 (f':Int)∧v=.slice pv Ms.length cv∧KSt W1 w j d x rq pb qb g bs OP OQ OB (.slice pv Ms.length cv) M Ms D' M' DN' N' S'∧KOut C M D' M' DN' N' e' f' Ms∧Ms.length≤1200∧∀y,(Value.slice pv Ms.length cv).ownBlock=some y→W1.heap.size≤y
theorem kq_step {A m:Nat}{M:zAH}{DN:zAA}{es:List Ent}(h:zCZ zDu (A+zBO (es.take m)) (appM M (es.take m)) DN)(k:DN.fuse=none)(f:m<es.length)(b:es.all zAt=true)(o:M.last≤4*A)(hn:es.length≤1200)(n:A+zBO es≤6100) :
  (zAZ [97] DN (appM M (es.take m)) [es[m]]).jou=appM M (es.take (m+1))∧zCZ zDu (A+zBO (es.take (m+1))) (appM M (es.take (m+1))) (zAZ [97] DN (appM M (es.take m)) [es[m]]).disk∧(zAZ [97] DN (appM M (es.take m)) [es[m]]).disk.fuse=none:=by
 have c:es.take (m+1)=es.take m++[es[m]]:=List.take_succ_eq_append_getElem f;have g:zBO (es.take (m+1))=zBO (es.take m)+entW es[m]:=by
  rw[c];unfold zBO;rw[List.map_append,List.sum_append,List.map_cons,List.map_nil,List.sum_cons,List.sum_nil,Nat.add_zero]
 have l:zBO (es.take (m+1))≤zBO es:=by
  conv=>rhs;rw[←List.take_append_drop (m+1) es]
  unfold zBO;rw[List.map_append,List.sum_append];omega
 have i:(appM M (es.take m)).last+1≤1099511627776:=by
  have:(appM M (es.take m)).last=M.number+(M.entries++es.take m).length:=rfl;have d:M.last=M.number+M.entries.length:=rfl;rw[List.length_append,List.length_take]at this;omega
 have d:=kq_one (e:=es[m]) h k i (List.all_eq_true.1 b _ (List.getElem_mem f)) (by omega);have j:appM M (es.take (m+1))={appM M (es.take m)with entries:=(appM M (es.take m)).entries++[es[m]] }:=by
  rw[c];simp[appM]
 rw[j,g,←Nat.add_assoc];exact d
section
variable {W1 W W2:World} {j d x rq pb qb g bs:Nat} {OP OQ OB:Obj} {v:Value} {M0:zAH} {Ms:List zAH} {D D':zAA} {M M':zAH} {DN DN':zAA} {N N':zAH} {S:Nat→Prop}
theorem kst_rone (h:KSt W1 W j d x rq pb qb g bs OP OQ OB v M0 Ms D M DN N S){e:Ent}{u:EV}(f:zBS W1 e u) :
  Calls prog 44 #[.pointer (some ⟨x,0,none⟩),.slice (some ⟨W.heap.size,0,none⟩) 1 1] (W.alloc (.cells #[.int .i64 e.term,.int .i64 e.kind,u.1,u.2] 50)) fun r w'=>r=.returned (.int .i64 ((zAZ [97] DN N [e]).err:Int))∧KSt W1 w' j d x rq pb qb g bs OP OQ OB v M0 Ms D M (zAZ [97] DN N [e]).disk (zAZ [97] DN N [e]).jou S:=by
 have c:=h.next (zAC W (.cells #[.int .i64 e.term,.int .i64 e.kind,u.1,u.2] 50));have l:=h.pr.box (.cells #[.int .i64 e.term,.int .i64 e.kind,u.1,u.2] 50);refine(pk_rone l (.inr rfl) (zAJ W _) f).mono fun r w' ⟨m,b,n⟩=>⟨m,c.told (b.less (fun k e=>.inl e) fun k e=>e) fun k i=>n k (i.imp .inl id)⟩
theorem kst_shot (h:KSt W1 W j d x rq pb qb g bs OP OQ OB v M0 Ms D M DN N S) :
  Calls prog 41 #[.pointer (some ⟨x,0,none⟩)] W fun e w'=>∃y f,e=.returned (.pointer (some ⟨y,0,none⟩))∧KSt W1 w' j d x rq pb qb g bs OP OQ OB v M0 Ms D M DN N f∧zA4 f w' y rq sA N :=
 (pk_shot h.pr h.dis).mono fun _ w' ⟨y,f,k,l,hS,hn,c,i⟩=>⟨y,f,k,⟨l,(h.next c).p,(h.next c).q,(h.next c).b,(h.next c).s0.wide hS,(h.next c).s1.wide hS,i⟩,hn⟩
def FarV (W1:World)(pb qb g bs:Nat)(v:Value):Prop:=∀k,v.ownBlock=some k→(W1.heap.size≤k∧k≠pb∧k≠qb)∧k≠g∧k≠bs
theorem kst_push (h:KSt W1 W j d x rq pb qb g bs OP OQ OB v M0 Ms D M DN N S){K:zAH}{y n:Nat}(hn:zA4 S W y rq sA K)(hm:Ms.length=n)(Y:W1.heap.size≤g∧g≠pb∧g≠qb)(G:W1.heap.size≤bs∧bs≠pb∧bs≠qb)(t:FarV W1 pb qb g bs v) :
  ∃a:List Nat,OwnR (W.alloc (.cells #[.pointer (some ⟨y,0,none⟩)] 35)) 35 1 v n (a.map ptrV)∧∀v3 r,OwnR r 35 1 v3 (n+1) (a.map ptrV++[ptrV y])→(W.alloc (.cells #[.pointer (some ⟨y,0,none⟩)] 35)).grownBy r v.ownBlock→(v3.ownBlock=v.ownBlock∨∃g,v3.ownBlock=some g∧(W.alloc (.cells #[.pointer (some ⟨y,0,none⟩)] 35)).heap.size≤g) →
   KSt W1 r j d x rq pb qb g bs OP OQ OB v3 M0 (Ms++[K]) D M DN N S∧FarV W1 pb qb g bs v3:=by
 have E:=zAC W (.cells #[.pointer (some ⟨y,0,none⟩)] 35);have T:DSt W1 W j d x rq pb qb OP OQ D M DN N (fun k=>(k=g∨k=bs)∨v.ownBlock=some k) S :=
  ⟨h.pr.less (fun k e=>by
   rcases e with(e|e)|(e|e)|e
   ·exact .inl (.inl (.inl (.inl e)))
   ·exact .inl (.inl (.inl (.inr e)))
   ·exact .inl (.inl (.inr e))
   ·exact .inl (.inr e)
   ·exact .inr e) fun k e=>e,h.p,h.q,fun k o e=>h.dis k o (by
   rcases e with(e|e)|(e|e)|e
   ·exact .inl (.inl (.inl (.inl e)))
   ·exact .inl (.inl (.inl (.inr e)))
   ·exact .inl (.inl (.inr e))
   ·exact .inl (.inr e)
   ·exact .inr e),fun k e=>by
   rcases e with(e|e)|e
   ·rw[e];exact Y
   ·rw[e];exact G
   ·exact(t k e).1⟩
 have B:=dst_lit T y;have V:=E.size;have ad:W.heap.size<(W.alloc (.cells #[.pointer (some ⟨y,0,none⟩)] 35)).heap.size:=by simp
 have c:=h.next E;obtain⟨a,J,L,O⟩:=c.s1;have I:zA4 S (W.alloc (.cells #[.pointer (some ⟨y,0,none⟩)] 35)) y rq sA K:=hn.below E;have Q:∀(i:Nat) z P,[y][i]?=some z→[K][i]?=some P→zA4 S (W.alloc (.cells #[.pointer (some ⟨y,0,none⟩)] 35)) z rq sA P:=fun i z P R U=>by
  cases i with
  | zero=>cases R;cases U;exact I
  | succ i=>simp at R
 subst hm;refine⟨a,L,fun v3 r m f l=>?_⟩;have H:∀k,v3.ownBlock=some k→k<r.heap.size:=fun k o=>OwnR.lt m o;have C:∀k,v.ownBlock=some k→((k=g∨k=bs)∨v.ownBlock=some k)∨k=W.heap.size:=fun k e=>.inl (.inr e);have s:=dst_grown B C f l H;have X:Chg (fun k=>v.ownBlock=some k) (W.alloc (.cells #[.pointer (some ⟨y,0,none⟩)] 35)) r:=(Chg.of_grown f).mono fun _ _ e=>e.symm;have F:bs<(W.alloc (.cells #[.pointer (some ⟨y,0,none⟩)] 35)).heap.size:=zAB c.b;have Z:g<(W.alloc (.cells #[.pointer (some ⟨y,0,none⟩)] 35)).heap.size:=c.s0.lt rfl;have ae:=h.pr.bel.size;have ab:=h.pr.lt (k:=pb) (.inl (.inl (.inl (.inl (.inl rfl)))));have ac:=h.pr.lt (k:=qb) (.inl (.inl (.inl (.inl (.inr rfl)))));refine⟨⟨s.pr.less (fun k e=>?_) fun k e=>e,s.p,s.q,(X.block bs F fun e=>(t bs e).2.2 rfl).trans c.b,?_,?_,fun k o e=>s.dis k o ?_⟩,fun k e=>?_⟩
 ·rcases e with(((e|e)|e)|e)|e
  ·exact .inl (.inl e)
  ·exact .inl (.inr e)
  ·exact .inr (.inl (.inl (.inl (.inl e))))
  ·exact .inr (.inl (.inl (.inl (.inr e))))
  ·exact .inr (.inr e)
 ·exact shots_aside B C c.s0 (fun k o e=>(t k e).2.1 (Option.some.inj o).symm) f
 ·exact zFA B C J O (zs:=[y]) (Ms:=[K]) rfl Q (by simpa using m) f
 ·rcases e with(((e|e)|e)|e)|e
  ·exact .inl (.inl e)
  ·exact .inl (.inr e)
  ·exact .inr (.inl (.inl (.inl (.inl e))))
  ·exact .inr (.inl (.inl (.inl (.inr e))))
  ·exact .inr (.inr e)
 ·rcases l with A|⟨g2,A,aa⟩
  ·exact t k (A▸e)
  ·rw[A]at e;have e:=Option.some.inj e;refine⟨⟨by omega,by omega,by omega⟩,by omega,by omega⟩
end
def KH (j d x r rq p g i pb qb bs l c m f k cd:Nat)(n o pd:Option Addr)(kd a b:Int)(w:World):Prop :=
 w.heap[pb]?=some (zCE d r (.pointer (some ⟨j,0,none⟩)) (.pointer (some ⟨p,0,none⟩)) false)∧w.heap[qb]?=some (zCE g rq (.pointer (some ⟨i,0,none⟩)) (.pointer (some ⟨x,0,none⟩)) false)∧w.heap[bs]?=some (.cells #[.int .i64 kd,.int .i64 a,.int .i64 b,.slice n l c,.slice o m f,.slice pd k cd] 80 (0,0))
theorem KSt.kh {W1 w:World}{j d x r rq t i k pb qb g bs m c n f l cd:Nat}{o s pd:Option Addr}{kd a b:Int}{v:Value}{M0 M N:zAH}{Ms:List zAH}{D DN:zAA}{S:Nat→Prop}(h:KSt W1 w j d x rq pb qb g bs (zCE d r (.pointer (some ⟨j,0,none⟩)) (.pointer (some ⟨t,0,none⟩)) false) (zCE i rq (.pointer (some ⟨k,0,none⟩)) (.pointer (some ⟨x,0,none⟩)) false) (.cells #[.int .i64 kd,.int .i64 a,.int .i64 b,.slice o m c,.slice s n f,.slice pd l cd] 80 (0,0)) v M0 Ms D M DN N S):KH j d x r rq t i k pb qb bs m c n f l cd o s pd kd a b w:=⟨h.p,h.q,h.b⟩
theorem zA7 {w:World}{j d x r rq p n o pb qb bs i c k f g cd:Nat}{l m pd:Option Addr}{kd a b:Int}(h:KH j d x r rq p n o pb qb bs i c k f g cd l m pd kd a b w) :
  w.cell? ⟨pb,2,none⟩=some (.pointer (some ⟨j,0,none⟩))∧w.cell? ⟨qb,3,none⟩=some (.pointer (some ⟨x,0,none⟩))∧w.cell? ⟨bs,0,none⟩=some (.int .i64 kd)∧w.cell? ⟨bs,1,none⟩=some (.int .i64 a)∧w.cell? ⟨bs,2,none⟩=some (.int .i64 b)∧w.cell? ⟨bs,3,none⟩=some (.slice l i c)∧w.cell? ⟨bs,4,none⟩=some (.slice m k f)∧w.cell? ⟨bs,5,none⟩=some (.slice pd g cd) :=
 ⟨zAG h.1 rfl,zAG h.2.1 rfl,zAG h.2.2 rfl,zAG h.2.2 rfl,zAG h.2.2 rfl,zAG h.2.2 rfl,zAG h.2.2 rfl,zAG h.2.2 rfl⟩
end Go.Proofs.YtapfnehdgailmaaGreat
