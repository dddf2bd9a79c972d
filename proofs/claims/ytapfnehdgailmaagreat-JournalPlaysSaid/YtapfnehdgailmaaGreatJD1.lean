/- What the program's functions and the document's do, and plain laws, for PJournalPlays. -/
import Derived.Test.YtapfnehdgailmaaGreatJB
import Derived.Test.YtapfnehdgailmaaGreatJC1
import Derived.Test.YtapfnehdgailmaaGreatJE
import Derived.Test.YtapfnehdgailmaaGreatJF
import Derived.Test.YtapfnehdgailmaaGreatJH
import Derived.Test.YtapfnehdgailmaaGreatJI
import Derived.Test.YtapfnehdgailmaaGreatJV
import Derived.Test.YtapfnehdgailmaaGreatJX
open Go.Proofs.Tryz
set_option maxRecDepth 100000
set_option maxHeartbeats 64000000
namespace Go.Proofs.YtapfnehdgailmaaGreat
open Go.RowKit Go.Sat Go.ChangeShapes Go.WideShapes Go.ChangeAt Go.Deep
def zC6 (w:World)(x:Value)(es:List Ent)(vs:List EV):Prop:=vs.length=es.length∧zAK w 4 x es.length (zA3 es vs)∧∀(i:Nat) e v,es[i]?=some e→vs[i]?=some v→zAb w v.1 e.data∧zBY w v.2 e.nodes∧e.data.length≤140737488355328∧e.nodes.length≤140737488355328
theorem zC6.has {w:World}{x:Value}{es:List Ent}{vs:List EV}(h:zC6 w x es vs)(c:∀e∈es,e.data.length≤1099511627776∧e.nodes.length≤1099511627776):zCG w x es vs :=
 ⟨h.1,h.2.1,fun i e v b d=>⟨(h.2.2 i e v b d).1,(h.2.2 i e v b d).2.1,(c e (List.mem_of_getElem? b)).1,(c e (List.mem_of_getElem? b)).2⟩⟩
theorem zC6.len {w:World}{p:Option Addr}{n c:Nat}{es:List Ent}{vs:List EV}(h:zC6 w (.slice p n c) es vs):es.length=n:=by
 obtain⟨-,⟨-,_,_,e,-⟩,-⟩:=h;simp only[Value.slice.injEq]at e;exact e.2.1.symm
theorem zC6.ent {w:World}{p:Option Addr}{n c:Nat}{es:List Ent}{vs:List EV}(h:zC6 w (.slice p n c) es vs){i:Nat}(s:i<es.length):∃b o v,p=some ⟨b,o,none⟩∧(zAb w v.1 es[i].data∧zBY w v.2 es[i].nodes∧es[i].data.length≤140737488355328∧es[i].nodes.length≤140737488355328)∧vs[i]?=some v ∧
  w.cell? ⟨b,o+i*4,none⟩=some (.int .i64 es[i].term)∧w.cell? ⟨b,o+i*4+1,none⟩=some (.int .i64 es[i].kind)∧w.cell? ⟨b,o+i*4+2,none⟩=some v.1∧w.cell? ⟨b,o+i*4+3,none⟩=some v.2:=by
 have hn:=h.len;obtain⟨f,m,q⟩:=h;rw[hn]at m;have g:vs[i]?=some (vs[i]'(by omega)):=List.getElem?_eq_getElem _;generalize vs[i]'(by omega)=v at g;have l:=List.getElem?_eq_getElem s;have j:zA3 es vs≠[]:=fun e=>by
  have:=zDx es vs f;rw[e]at this;simp at this;omega
 obtain⟨b,o,rfl,r⟩:=holds_at4 m j;have d:∀(k:Nat) u,(zEq es[i] v)[k]?=some u→w.cell? ⟨b,o+(i*4+k),none⟩=some u:=fun k u t=>r _ _ (zEJ _ _ i _ v l g k u t);exact⟨b,o,v,rfl,q i _ v l g,g,d 0 _ rfl,d 1 _ rfl,d 2 _ rfl,d 3 _ rfl⟩
structure zDn where
 kind:Int
 a:Int
 b:Int
 pl:Option Addr
 nl:Nat
 cl:Nat
 pn:Option Addr
 nn:Nat
 cn:Nat
 pd:Option Addr
 nd:Nat
 cd:Nat
 es:List Ent
 vs:List EV
 nodes:List Int
 data:Bs
structure Step5At (w:World)(g j:Nat)(s:zDn):Prop where
 ck:w.cell? ⟨g,j,none⟩=some (.int .i64 s.kind)
 ca:w.cell? ⟨g,j+1,none⟩=some (.int .i64 s.a)
 cb:w.cell? ⟨g,j+2,none⟩=some (.int .i64 s.b)
 c3:w.cell? ⟨g,j+3,none⟩=some (.slice s.pl s.nl s.cl)
 c4:w.cell? ⟨g,j+4,none⟩=some (.slice s.pn s.nn s.cn)
 c5:w.cell? ⟨g,j+5,none⟩=some (.slice s.pd s.nd s.cd)
 he:zC6 w (.slice s.pl s.nl s.cl) s.es s.vs
 hn:zBY w (.slice s.pn s.nn s.cn) s.nodes
 hd:zAb w (.slice s.pd s.nd s.cd) s.data
 ok:(-9223372036854775808≤s.kind∧s.kind≤9223372036854775807)∧(-9223372036854775808≤s.a∧s.a≤9223372036854775807)∧(-9223372036854775808≤s.b∧s.b≤9223372036854775807)∧s.nodes.length≤140737488355328∧s.data.length≤140737488355328∧s.es.length≤140737488355328∧(∀z∈s.nodes,-9223372036854775808≤z∧z≤9223372036854775807)∧∀e∈s.es,(-9223372036854775808≤e.term∧e.term≤9223372036854775807)∧(-9223372036854775808≤e.kind∧e.kind≤9223372036854775807)∧∀z∈e.nodes,-9223372036854775808≤z∧z≤9223372036854775807
def Steps5 (w:World)(p:Option Addr)(n:Nat)(l:List zDn):Prop:=l.length=n∧(l=[]∨∃g o,p=some ⟨g,o,none⟩∧∀i s,l[i]?=some s→Step5At w g (o+i*6) s)
section
variable {H:Type} {enc:TypeId×Value→H} {W:World}
theorem field_ints {a:Addr}{K:Nat}(h:FieldAt enc prog W reachBytes K a 38):∃p n c l,W.cell? a=some (.slice p n c)∧zBY W (.slice p n c) l∧l.length≤140737488355328∧∀z∈l,-9223372036854775808≤z∧z≤9223372036854775807:=by
 obtain⟨v,f,d,q,i,b,m,o⟩:=h;obtain⟨p,n,c,rfl⟩:=zDs underlying38 b;obtain⟨l,j,k,hn,g⟩:=ints_arg b m;exact⟨p,n,c,l,i,j,by omega,g⟩
theorem addr_at {g o k:Nat}:(⟨g,o,none⟩:Addr).add k=⟨g,o+k,none⟩:=by unfold Addr.add;split<;>simp_all
theorem ents_holds {g o n c:Nat}{es:List Ent}{vs:List EV}(hn:es.length=n)(r:vs.length=es.length)
  (h:∀i e v,es[i]?=some e→vs[i]?=some v→∀j u,(zEq e v)[j]?=some u→W.cell? ⟨g,o+i*4+j,none⟩=some u):zAK W 4 (.slice (some ⟨g,o,none⟩) n c) es.length (zA3 es vs):=by
 subst hn;refine⟨zDx es vs r,some ⟨g,o,none⟩,c,rfl,fun e=>(by cases e),fun a t m u q=>?_⟩;cases t;rw[addr_at];have A:m<es.length*4:=by have:=(List.getElem?_eq_some_iff.1 q).1;rwa[zDx es vs r]at this
 have y:m/4<es.length:=by omega
 have f:m/4<vs.length:=by omega
 have p:=List.getElem?_eq_getElem y;have d:=List.getElem?_eq_getElem f;have s:(zEq es[m/4] vs[m/4]).length=4:=rfl;have z:m%4<(zEq es[m/4] vs[m/4]).length:=by rw[s];omega
 have b:=List.getElem?_eq_getElem z;have k:=zEJ es vs (m/4) _ _ p d (m%4) _ b;rw[show m/4*4+m%4=m by omega,q]at k;have l:=h (m/4) _ _ p d (m%4) _ b;rw[show o+m/4*4+m%4=o+m by omega]at l;rw[l,k]
theorem field_ents {a:Addr}{K:Nat}(h:FieldAt enc prog W reachBytes K a 78):∃p n c es vs,W.cell? a=some (.slice p n c)∧zC6 W (.slice p n c) es vs∧es.length≤140737488355328 ∧
  ∀e∈es,(-9223372036854775808≤e.term∧e.term≤9223372036854775807)∧(-9223372036854775808≤e.kind∧e.kind≤9223372036854775807)∧∀z∈e.nodes,-9223372036854775808≤z∧z≤9223372036854775807:=by
 obtain⟨v,S,d,ps,H,J,hw,hk⟩:=h;obtain⟨p,n,c,rfl⟩:=zDs underlying78 J;have B:∀(p:Option Addr),n=0→zC6 W (.slice p n c) [] []:=fun p L=>by
  subst L;exact⟨rfl,⟨rfl,p,c,rfl,fun _=>rfl,fun a ha i u l=>by simp[zA3]at l⟩,fun i e v b=>by simp at b⟩
 rcases open_recs underlying78 underlying50 (by kernel_rfl) (by kernel_rfl) J hw with⟨rfl,rfl⟩|⟨x,rfl,A,m⟩
 ·exact⟨none,0,c,[],[],H,B none rfl,by decide,fun e b=>by cases b⟩
 ·rw[show prog.bytesOf 50=64 by kernel_rfl]at A;have F:n≤140737488355328:=by unfold reachBytes at A;omega
  by_cases L:n=0
  ·exact⟨some x,n,c,[],[],H,B _ L,by decide,fun e b=>by cases b⟩
  obtain⟨g,o,sp⟩:=x;have O:sp=none:=by
   obtain⟨v,_,_,_,H,-⟩:=m 0 (by omega) 0 _ rfl;have:=World.cell?_spot H;simpa[Addr.add]using this
  subst O;have G:∀i,i<n→∃s:Ent×EV,(zAb W s.2.1 s.1.data∧zBY W s.2.2 s.1.nodes∧s.1.data.length≤140737488355328∧s.1.nodes.length≤140737488355328)∧(∀j u,(zEq s.1 s.2)[j]?=some u→W.cell? ⟨g,o+i*4+j,none⟩=some u) ∧
    (-9223372036854775808≤s.1.term∧s.1.term≤9223372036854775807)∧(-9223372036854775808≤s.1.kind∧s.1.kind≤9223372036854775807)∧∀z∈s.1.nodes,-9223372036854775808≤z∧z≤9223372036854775807:=fun i r=>by
   have e4:∀j,(⟨g,o,none⟩:Addr).add (i*4+j)=⟨g,o+i*4+j,none⟩:=fun j=>by rw[addr_at,Nat.add_assoc]
   obtain⟨t,Z,wt⟩:=zEt underlying3 (m i r 0 _ rfl);obtain⟨k,Y,wk⟩:=zEt underlying3 (m i r 1 _ rfl);obtain⟨pb,nb,cb,lb,U,hb,wb⟩:=field_bytes (m i r 2 _ rfl);obtain⟨pi,ni,X,li,V,M,wi,T⟩:=field_ints (m i r 3 _ rfl);have Q:=bounds_i64 wt;have R:=bounds_i64 wk;refine⟨(⟨t,k,lb,li⟩,(.slice pb nb cb,.slice pi ni X)),⟨hb,M,wb.1,wi⟩,fun j u l=>?_,⟨Q.1,Q.2⟩,⟨R.1,R.2⟩,T⟩;rw[←e4]
   match j,l with
   | 0,l=>cases l;exact Z
   | 1,l=>cases l;exact Y
   | 2,l=>cases l;exact U
   | 3,l=>cases l;exact V
   | _+4,l=>cases l
  have aa:Inhabited (Ent×EV):=⟨(⟨0,0,[],[]⟩,(.int .i64 0,.int .i64 0))⟩;obtain⟨f,C⟩:=choose_lt G;have y:∀i e,((List.range n).map fun i=>(f i).1)[i]?=some e→i<n∧e=(f i).1:=fun i e b=>by
   rw[List.getElem?_map,Option.map_eq_some_iff]at b;obtain⟨j,N,rfl⟩:=b;obtain⟨I,D⟩:=List.getElem?_eq_some_iff.1 N;have E:j=i:=by simpa using D.symm
   subst E;exact⟨by simpa using I,rfl⟩
  have q:∀i e,((List.range n).map fun i=>(f i).2)[i]?=some e→e=(f i).2:=fun i e b=>by
   rw[List.getElem?_map,Option.map_eq_some_iff]at b;obtain⟨j,N,rfl⟩:=b;obtain⟨I,D⟩:=List.getElem?_eq_some_iff.1 N;have E:j=i:=by simpa using D.symm
   rw[E]
  refine⟨some ⟨g,o,none⟩,n,c,(List.range n).map fun i=>(f i).1,(List.range n).map fun i=>(f i).2,H,⟨by simp,ents_holds (by simp) (by simp) fun i e v b P j u l=>?_,fun i e v b P=>?_⟩,by simpa using F,fun e b=>?_⟩
  ·obtain⟨r,rfl⟩:=y i e b;rw[q i v P]at l;exact(C i r).2.1 j u l
  ·obtain⟨r,rfl⟩:=y i e b;rw[q i v P];exact(C i r).1
  ·obtain⟨i,r,rfl⟩:=List.mem_map.1 b;exact(C i (by simpa using r)).2.2
theorem steps5_arg {q:Nat}{d:DataW H}{ps:List MemPlace}{a:Option Addr}{c z:Nat}(Z:DataW.trod enc prog W 0 (fun _=>true) true q 74 [.slice a c z]=some (d,ps))(hw:∀n∈d.weights prog 74,n≤reachBytes) :
  ∃l,Steps5 W a c l∧c≤140737488355328:=by
 rcases open_recs underlying74 underlying80 (by kernel_rfl) (by kernel_rfl) Z hw with⟨rfl,rfl⟩|⟨x,rfl,p,b⟩
 ·exact⟨[],⟨rfl,.inl rfl⟩,by decide⟩
 ·rw[show prog.bytesOf 80=96 by kernel_rfl]at p;have m:c≤140737488355328:=by unfold reachBytes at p;omega
  by_cases U:c=0
  ·subst U;exact⟨[],⟨rfl,.inl rfl⟩,m⟩
  obtain⟨g,o,sp⟩:=x;have E:sp=none:=by
   obtain⟨v,_,_,_,V,-⟩:=b 0 (by omega) 0 _ rfl;have:=World.cell?_spot V;simpa[Addr.add]using this
  subst E;have r:∀i,i<c→∃s:zDn,Step5At W g (o+i*6) s:=fun i K=>by
   have T:∀j,(⟨g,o,none⟩:Addr).add (i*6+j)=⟨g,o+i*6+j,none⟩:=fun j=>by rw[addr_at,Nat.add_assoc]
   have b:=fun j t h=>T j▸b i K j t h;obtain⟨k,Q,wk⟩:=zEt underlying3 (b 0 _ rfl);obtain⟨x,P,wa⟩:=zEt underlying3 (b 1 _ rfl);obtain⟨y,cb,wb⟩:=zEt underlying3 (b 2 _ rfl);obtain⟨pl,nl,R,es,vs,M,Y,wl,J⟩:=field_ents (b 3 _ rfl);obtain⟨pn,nn,S,ln,N,hn,wn,L⟩:=field_ints (b 4 _ rfl);obtain⟨pd,nd,cd,ld,O,X,wd⟩:=field_bytes (b 5 _ rfl);have F:=bounds_i64 wk;have G:=bounds_i64 wa;have b3:=bounds_i64 wb;exact⟨⟨k,x,y,pl,nl,R,pn,nn,S,pd,nd,cd,es,vs,ln,ld⟩,⟨Q,P,cb,M,N,O,Y,hn,X,⟨F.1,F.2⟩,⟨G.1,G.2⟩,⟨b3.1,b3.2⟩,wn,wd.1,wl,L,J⟩⟩
  have aa:Inhabited zDn:=⟨⟨0,0,0,none,0,0,none,0,0,none,0,0,[],[],[],[]⟩⟩;obtain⟨f,A⟩:=choose_lt r;refine⟨(List.range c).map f,⟨by simp,.inr ⟨g,o,rfl,fun i s I=>?_⟩⟩,m⟩;rw[List.getElem?_map,Option.map_eq_some_iff]at I;obtain⟨j,hj,rfl⟩:=I;obtain⟨B,C⟩:=List.getElem?_eq_some_iff.1 hj;have D:j=i:=by simpa using C.symm
  subst D;exact A j (by simpa using B)
end
end Go.Proofs.YtapfnehdgailmaaGreat
namespace Go.Proofs.YtapfnehdgailmaaGreat
open Go.RowKit Go.Sat Go.Maps
def zDn.light (s:zDn):Prop:=s.data.length≤6000∧s.nodes.length≤6000∧s.es.length≤1200∧∀e∈s.es,e.data.length≤6000∧e.nodes.length≤6000
def Light5 (l:List zDn)(b:Bool):Prop:=b=false→∀i s,i<80→l[i]?=some s→s.light
def HeavyTold5 (w:World)(l:List zDn)(e:Ending)(w':World):Prop:=∃hv,e=.returned (.bool hv)∧Light5 l hv∧∃q,w'=w.drewN q
theorem heavy5_calls {w:World}{p:Option Addr}{n c:Nat}{l:List zDn}(hx:Steps5 w p n l)(hn:n≤140737488355328) :
  Calls prog 39 #[.slice p n c] w (HeavyTold5 w l):=by
 have Y:=zh hx;clear hx
 go_enter func39,ntmps39
 go_wp2_with fail
 go_loopw [3,4,5] (fun a i _ wr=>∃k x q:Nat,k≤n∧k≤80∧i=.int .i64 k∧a=.int .i64 x∧x≤6000∧(∀i s,i<k→l[i]?=some s→s.light)∧wr=w.drewN q) (fun _ i _ _=>n-(intOf i).toNat)
 case atStart=>exact⟨0,0,0,Nat.zero_le _,by omega,rfl,rfl,by omega,fun i s h=>by omega,rfl⟩
 case round =>
  obtain⟨k,x,q,hk,ah,rfl,rfl,al,r,rfl⟩:=hrel;have f:=zh r;clear r
  by_cases ak:k<n
  ·by_cases ag:k<80
   ·have R:=Y.o.1;have m:k<l.length:=by omega
    obtain⟨s,A⟩:∃s,l[k]?=some s:=⟨_,List.getElem?_eq_getElem m⟩;rcases Y.o.2 with h0|⟨g,o,rfl,O⟩
    ·rw[h0]at m;simp at m
    have b:=O k s A;obtain⟨-,-,-,ac,ad,ae,-⟩:=b.ok;have c3:w.cell? ⟨g,o+k*6+3,none⟩=some (.slice s.pl s.nl s.cl):=b.c3;have c4:w.cell? ⟨g,o+k*6+4,none⟩=some (.slice s.pn s.nn s.cn):=b.c4;have c5:w.cell? ⟨g,o+k*6+5,none⟩=some (.slice s.pd s.nd s.cd):=b.c5;have E:s.nd=s.data.length:=by obtain⟨_,_,e⟩:=b.hd.slice;simp only[Value.slice.injEq]at e;exact e.2.1
    have G:s.nn=s.nodes.length:=by obtain⟨_,_,e⟩:=b.hn.slice;simp only[Value.slice.injEq]at e;exact e.2.1
    have F:s.nl=s.es.length:=by obtain⟨-,⟨-,_,_,e,-⟩,-⟩:=b.he;simp only[Value.slice.injEq]at e;exact e.2.1
    have B:=zh b.he;have Hs:=zh A;have W:=zh E;have X:=zh G;have J:=zh F;rw[←G]at ac;rw[←E]at ad;rw[←F]at ae;clear b O A m E G F R;generalize K:s.nd=nd at *;generalize aa:s.nn=nn at *;generalize N:s.nl=nl at *;have af:=zh N;clear K aa N;go_wp2_with fail
    go_quiet (fail)
    go_wp2_with fail;rw[World.drewN_drewN]
    go_loopw [3,5] (fun a i wr=>∃j y q:Nat,j≤nl∧i=.int .i64 j∧a=.int .i64 y∧5*j≤y∧nd+nn≤y∧y≤300000000000000∧(∀i e,i<j→s.es[i]?=some e→e.data.length≤6000∧e.nodes.length≤6000)∧wr=w.drewN q) (fun _ i _=>nl-(intOf i).toNat)
    case atStart=>exact⟨0,x+5+nd+nn,_,Nat.zero_le _,rfl,by go_num,by omega,by omega,by omega,fun i e h=>by omega,rfl⟩
    case round =>
     obtain⟨j,y,q',hj,rfl,rfl,am,an,ao,Q,rfl⟩:=hrel;have I:=zh Q;clear Q
     by_cases ab:j<nl
     ·have D:j<s.es.length:=by rw[←J.o];exact ab
      have z:=List.getElem?_eq_getElem D;obtain⟨b2,o2,v,T,⟨P,S,ai,aj⟩,-,-,-,d2,d3⟩:=B.o.ent D;obtain⟨p1,c1,e1⟩:=P.slice;obtain⟨p2,c2,e2⟩:=S.slice;rw[e1]at d2;rw[e2]at d3;have Z:=c3;rw[T]at Z;have He:=zh z;clear z e1 e2 P S T c3;generalize s.es[j]=ee at *;generalize L:ee.data.length=m1 at *;generalize M:ee.nodes.length=m2 at *;have H1:=zh L;have H2:=zh M;clear L M D
      by_cases U:y+5+m1+m2≤6000
      ·have d:=zW (∀i e,i<j+1→s.es[i]?=some e→e.data.length≤6000∧e.nodes.length≤6000) (fun i e H z=>by
        by_cases C:i<j
        ·exact I.o i e C z
        ·obtain rfl:i=j:=by omega
         rw[He.o]at z;cases z;have L:=H1.o;have M:=H2.o;omega)
       go_wp2_with fail
       go_quiet (fail)
       go_wp2_with fail;go_roundw
       case rel=>exact⟨j+1,y+5+m1+m2,_,by omega,by go_num,by go_num,by omega,by omega,by omega,d.o,rfl⟩
       case measure=>simp[intOf];omega
      ·go_wp2_with fail
       go_quiet (fail)
       go_wp2_with fail;go_ret;exact⟨true,rfl,(fun h=>by cases h),_,rfl⟩
     ·by_cases U:y≤6000
      ·have d:=zW (∀i t,i<k+1→l[i]?=some t→t.light) (fun i t H ht=>by
        by_cases C:i<k
        ·exact f.o i t C ht
        ·obtain rfl:i=k:=by omega
         rw[Hs.o]at ht;cases ht;have L:=W.o;have M:=X.o;have h3:=J.o;refine⟨by omega,by omega,by omega,fun e z=>?_⟩;obtain⟨i,H,rfl⟩:=List.getElem_of_mem z;exact I.o i _ (by omega) (List.getElem?_eq_getElem H))
       go_wp2_with fail;go_roundw
       case rel=>exact⟨k+1,y,q',by omega,by omega,by go_num,rfl,U,d.o,rfl⟩
       case measure=>simp[intOf];omega
      ·go_wp2_with fail;go_ret;exact⟨true,rfl,(fun h=>by cases h),q',rfl⟩
   ·obtain rfl:k=80:=by omega
    have V:=zW (Light5 l false) fun _ i s H A=>f.o i s H A;go_wp2_with fail;go_ret;exact⟨false,rfl,V.o,q,rfl⟩
  ·have V:=zW (Light5 l false) (fun _ i s H A=>by
    have L:=(List.getElem?_eq_some_iff.1 A).1;have M:=Y.o.1;exact f.o i s (by omega) A)
   go_wp2_with fail;go_ret;exact⟨false,rfl,V.o,q,rfl⟩
section
variable {S:Nat→Prop} {w1 w2:World} {j r:Nat} {pre:ByteArray} {M:zAJ}
theorem RJF.new {D:zAA}{c b:Nat→Prop}(h:RJF w1 j r pre D M c b):zBc (fun k=>c k∨b k) w1 j r pre M:=by
 obtain⟨O,own,f,dv,d,vs,v,L,i,o,n,m,g⟩:=h;exact⟨O,b,f,dv,d,vs,i,fun k l=>l.imp (fun h=>(g k).2 (.inl h)) id⟩
theorem rntermAt_calls (h:zBc S w1 j r pre M)(i:Int)(W:-9223372036854775808≤i∧i≤9223372036854775807) :
  Calls prog 95 #[.pointer (some ⟨j,0,none⟩),.int .i64 i] w1 fun e w'=>e=.returned (.tuple #[.int .i64 ((M.termAt i).getD 0),.bool (M.termAt i).isSome])∧∃q,w'=w1.drewN q:=by
 have d:=h.ok.last;obtain⟨O,C,V,dv,U,vs,s,v⟩:=h;have R:=s.c 0 rfl;have T:=s.c 1 rfl;have A:=s.c 8 rfl;obtain⟨p,c,m⟩:=s.row.shape
 by_cases f:i=(M.number:Int)
 ·have G:(i==(M.number:Int))=true:=by simpa using f
  have z:=zh (show M.termAt i=some M.term by rw[f];exact zEe);clear s v f m d A;generalize M.termAt i=E at *;generalize M.number=b at *
  go_enter func95,ntmps95
  go_wp2_with fail
  go_ret2
  exact⟨by rw[z.o];rfl,0,rfl⟩
 ·have G:(i==(M.number:Int))=false:=by simpa using f
  unfold zAJ.last at d
  by_cases l:i<(M.number:Int)
  ·have z:=zh (show M.termAt i=none by unfold zAJ.termAt;rw[if_neg f,if_pos l]);have F:decide (i<(M.number:Int))=true:=decide_eq_true l;clear s v f m d A l;generalize M.termAt i=E at *;generalize M.number=b at *
   go_enter func95,ntmps95
   go_wp2_with fail
   go_quiet (fail)
   go_wp2_with fail
   go_ret2
   exact⟨by rw[z.o];rfl,_,rfl⟩
  ·have F:decide (i<(M.number:Int))=false:=decide_eq_false l;rw[m]at A;have J:IntKind.i64.wrap ((M.number:Int)+(M.entries.length:Int))=((M.number+M.entries.length:Nat):Int):=by rw[IntWalk.i64_in _ (by omega)];omega
   by_cases t:((M.number+M.entries.length:Nat):Int)<i
   ·have z:=zh (show M.termAt i=none by
     unfold zAJ.termAt;rw[if_neg f,if_neg l,List.getElem?_eq_none (by omega)];rfl)
    have B:decide (((M.number+M.entries.length:Nat):Int)<i)=true:=decide_eq_true t;clear s v f m d l t;generalize M.termAt i=E at *;generalize M.number+M.entries.length=P at *;generalize M.number=b at *;generalize M.entries.length=n at *
    go_enter func95,ntmps95
    go_wp2_with fail
    go_quiet (fail)
    go_wp2_with fail
    go_ret2
    exact⟨by rw[z.o];rfl,_,rfl⟩
   ·have B:decide (((M.number+M.entries.length:Nat):Int)<i)=false:=decide_eq_false t;have a:(i-(M.number:Int)-1).toNat<M.entries.length:=by omega
    obtain⟨g,Q,v',y,I,-,X,-,-,-⟩:=s.ent (List.getElem?_eq_getElem a);have z:=zh (zED (M:=M) (show(M.number:Int)<i by omega) (List.getElem?_eq_getElem a));rw[m]at y;cases y;clear s v m I;generalize H:(i-(M.number:Int)-1).toNat=k at *;generalize M.entries[k]=e at *;generalize D:M.number+M.entries.length=P at *;generalize M.termAt i=E at *;generalize M.entries.length=n at *;generalize M.number=b at *;have L:IntKind.i64.wrap (i-(b:Int))=(k:Int)+1:=by rw[IntWalk.i64_in _ (by omega)];omega
    have N:IntKind.i64.wrap (k:Int)=(k:Int):=IntWalk.i64_in _ (by omega);clear H d l t f D
    go_enter func95,ntmps95
    go_wp2_with fail
    go_quiet (fail)
    go_wp2_with fail
    go_quiet (fail)
    go_wp2_with fail
    go_ret2
    exact⟨by rw[z.o];rfl,_,zFv _ _ _⟩
theorem rngrpAt_calls (h:zBc S w1 j r pre M)(z:Int)(aG:(M.number:Int)≤z)(aF:z≤9223372036854775807) :
  Calls prog 119 #[.pointer (some ⟨j,0,none⟩),.int .i64 z] w1 (zBS w1 (M.grpIn (M.upto z))):=by
 obtain⟨i0,hi,an,ao,ap⟩:=info_parts (show(prog.info? 3).map (fun i=>(i.zero,i.size,i.bytes))=some (some (.int .i64 0),1,8) by kernel_rfl);have a:=h.ok.last;have am:=h.ok.group;have Z:=zh h.ok.ents;obtain⟨O,C,gv,dv,ev,vs,V,ax⟩:=h;have HJ:=zh V;have c0:=V.c 0 rfl;have c2:=V.c 2 rfl;have c8:=V.c 8 rfl;obtain⟨pg,cg,ae⟩:=V.group.slice;obtain⟨p8,au,X⟩:=V.row.shape;rw[ae]at c2;rw[X]at c8;have ar:=zh (ae▸V.group);have az:=(zEP am).2;unfold zAJ.last at a;clear ax am ae;obtain⟨m,hm⟩:∃m,m=M.upto z:=⟨_,rfl⟩;rw[←hm];have Hm:=zW (∀k,k<M.entries.length→(k+1≤m↔(M.number:Int)+k+1≤z)) (fun k hk=>by
  rw[hm];unfold zAJ.upto;omega)
 have aw:m≤M.entries.length:=by
  rw[hm];exact Nat.min_le_right _ _
 clear hm;generalize hb:M.number=b at *;generalize hn:M.entries.length=n at *;generalize Y:M.group.length=U at *;have Hn:=zh hn;have T:=zh Y;clear hn Y;have ay:IntKind.i64.wrap ((n:Int)-1)=(n:Int)-1:=IntWalk.i64_in _ (by omega);clear V
 go_enter func119,ntmps119
 go_wp2_with fail
 go_loopw [6] (fun x wr=>∃k:Nat,k≤n∧x=.int .i64 ((k:Int)-1)∧M.grpIn m=M.grpIn (min k m)∧Below w1.heap.size w1 wr) (fun x _=>(intOf x+1).toNat)
 case atStart=>exact⟨n,Nat.le_refl _,rfl,by rw[Nat.min_eq_right aw],Below.refl _ _⟩
 case round =>
  obtain⟨k,hk,rfl,P,f⟩:=hrel;have ah:=zAH c0 f;have ai:=zAH c2 f;have aj:=zAH c8 f;cases k with
  | zero =>
   have G:=zh P;have HB:=zh f;have B:=zh (f.trans (⟨rfl,rfl,rfl,Nat.le_refl _,fun _ _=>rfl⟩:Below w1.heap.size wr wr.drew));have t:=zh (fun W (hb2:Below wr.drew.heap.size wr.drew W)=>(show zAK W 1 (.slice pg U cg) U (zFg M.group) by
    have h1:zBY W (.slice pg U cg) M.group:=zAK.chg ar.o (Chg.of_below ((f.trans (⟨rfl,rfl,rfl,Nat.le_refl _,fun _ _=>rfl⟩:Below w1.heap.size wr wr.drew)).trans (hb2.mono f.size))) fun _ _=>id;unfold zBY at h1;rwa[T.o]at h1))
   have ak:decide ((0:Int)≤((0:Nat):Int)-1)=false:=by decide
   clear P f aj;go_wp2_with fail;refine ost (fun w':World=>w'.cell? ⟨j,2,none⟩=some (.slice pg U cg)∧w'.cell? ⟨j,0,none⟩=some (.int .i64 (b:Int))) 14 (⟨ai,ah⟩) fun d=>?_;generalize wr.drew=W1 at *;refine Pl [1,2,3,4,5,7,8,9,10,11] ?_
   iterate 10 (refine Pc rfl ?_;simp only[uZ])
   refine Pn ?_;refine oon 0 rfl fun K I=>?_;have A:=zh (zAD W1 (.cells #[] 3));have aa:=zh (And.intro (zAH d.1 A.o) (zAH d.2 A.o));have p:=zh d;go_wp2_with fail;refine I.o _ _ (aa.o) fun d=>?_;clear I
   try simp only[uZ]
   refine oon 6 rfl fun K I=>?_;have F:=zh (zAx W1 3);have H:=zh (t.o _ A.o);refine zAm (.tmp 56) (.tmp 61) 38 rfl 3 i0 (.int .i64 0) 1 8 underlying38 hi an ao ap rfl (by decide) (.slice (some ⟨W1.heap.size,0,none⟩) 0 0) 0 [] rfl F.o (.slice pg U cg) U _ rfl H.o (fun u hu=>by obtain⟨z,-,rfl⟩:=List.mem_map.1 hu;rfl) (by unfold maxLen;omega) (by omega) ?_;intro v4 w4 s l q;have N:=zh (zC0 s l q);have ab:=zh (And.intro (zAH p.o.1 N.o.2.2) (zAH p.o.2 N.o.2.2));clear s l q F H;obtain⟨p4,c4,rfl⟩:=OwnR.shape N.o.1;refine I.o _ _ (ab.o) fun d=>?_;clear I
   try simp only[uZ]
   refine Pl [12,13] ?_
   iterate 2 (refine Pc rfl ?_;simp only[uZ])
   refine Pn ?_;have HE:=zW (zBS w1 (M.grpIn m) (.returned (.tuple #[.slice p4 U c4,.int .i64 (b:Int)])) w4) (by
    have hE:=N.o;rw[G.o,Nat.zero_min];refine⟨.slice p4 U c4,?_,?_,fun y hy=>Nat.le_trans B.o.size (hE.2.1 y hy),B.o.trans (hE.2.2.mono B.o.size)⟩
    ·show _=Ending.returned (.tuple #[_,.int .i64 (M.number:Int)])
     rw[hb]
    ·show zCd w4 _ M.group
     unfold zCd;rw[T.o];exact hE.1)
   refine odn ?_;go_wp2_with fail
   go_ret2
   exact HE.o
  | succ k =>
   have af:k<M.entries.length:=by rw[Hn.o];omega
   have he:=List.getElem?_eq_getElem af;obtain⟨g,c,v,ad,-,ac,k0,k1,k2,k3⟩:=HJ.o.ent he;rw[X]at ad;rw[Hn.o]at ad;cases ad;have hf:=zBF (Z.o _ (List.getElem_mem af));have Q:=fun h1 h2=>grp_min_yes (m:=m) he h1 h2;have J:=fun h1=>grp_min_no (m:=m) he h1;generalize M.entries[k]=e at *;have L:=Hm.o k (by omega);obtain⟨pn,cn,en⟩:=ac.nodes.slice;rw[en]at k3;have k1:=zAH k1 f;have k3:=zAH k3 f;have t:=zh (fun W (hb2:Below wr.drew.heap.size wr.drew W)=>(show zAK W 1 (.slice pn e.nodes.length cn) e.nodes.length (zFg e.nodes) by
    rw[←en];exact zAK.chg ac.nodes (Chg.of_below ((f.trans (⟨rfl,rfl,rfl,Nat.le_refl _,fun _ _=>rfl⟩:Below w1.heap.size wr wr.drew)).trans (hb2.mono f.size))) fun _ _=>id))
   have G:=zh P;have HB:=zh f;have B:=zh (f.trans (⟨rfl,rfl,rfl,Nat.le_refl _,fun _ _=>rfl⟩:Below w1.heap.size wr wr.drew));have ak:decide ((0:Int)≤((k+1:Nat):Int)-1)=true:=decide_eq_true (by omega);have al:((k+1:Nat):Int)-1=(k:Int):=by omega
   rw[al]at ak ⊢;have aC:e.nodes.length≤7:=by omega
   have aA:k≤1099511627776:=by omega
   have aB:k<n:=by omega
   clear P f ai af he ac en hf al;obtain⟨x0,ag⟩:∃x0,x0=b+k:=⟨_,rfl⟩;obtain⟨x1,R⟩:∃x1,x1=b+k+1:=⟨_,rfl⟩;have aD:IntKind.i64.wrap ((b:Int)+(k:Int))=(x0:Int):=by rw[IntWalk.i64_in _ (by omega)];omega
   have aE:IntKind.i64.wrap ((x0:Int)+1)=(x1:Int):=by rw[IntWalk.i64_in _ (by omega)];omega
   have aq:=zh R
   by_cases D:e.kind=2
   ·have hq:(e.kind==2)=true:=by simpa using D
    by_cases E:k+1≤m
    ·have av:decide ((x1:Int)≤z)=true:=decide_eq_true (by have:=L.1 E;omega);have HG:=zh (Q D E);clear Q J L D E ag R a;go_wp2_with fail;refine ost (fun w':World=>w'.cell? ⟨j,8,none⟩=some (.slice (some ⟨g,0,none⟩) n au)∧w'.cell? ⟨g,k*4+3,none⟩=some (.slice pn e.nodes.length cn)∧w'.cell? ⟨j,0,none⟩=some (.int .i64 (b:Int))) 20 (⟨aj,k3,ah⟩) fun d=>?_;generalize wr.drew=W1 at *;refine Pl [1,2,3,4,5,6,7,8,10,11,12,13,14,15,16,17] ?_
     iterate 16 (refine Pc rfl ?_;simp only[uZ])
     refine Pn ?_;refine oon 0 rfl fun K I=>?_;have A:=zh (zAD W1 (.cells #[] 3));have aa:=zh (And.intro (zAH d.1 A.o) (And.intro (zAH d.2.1 A.o) (zAH d.2.2 A.o)));have p:=zh d;go_wp2_with fail;refine I.o _ _ (aa.o) fun d=>?_;clear I
     try simp only[uZ]
     refine oon 9 rfl fun K I=>?_;have F:=zh (zAx W1 3);have H:=zh (t.o _ A.o);refine zAm (.tmp 38) (.tmp 46) 38 rfl 3 i0 (.int .i64 0) 1 8 underlying38 hi an ao ap rfl (by decide) (.slice (some ⟨W1.heap.size,0,none⟩) 0 0) 0 [] rfl F.o (.slice pn e.nodes.length cn) e.nodes.length _ rfl H.o (fun u hu=>by obtain⟨z,-,rfl⟩:=List.mem_map.1 hu;rfl) (by unfold maxLen;omega) (by omega) ?_;intro v4 w4 s l q;have N:=zh (zC0 s l q);have ab:=zh (And.intro (zAH p.o.1 N.o.2.2) (And.intro (zAH p.o.2.1 N.o.2.2) (zAH p.o.2.2 N.o.2.2)));clear s l q F H;obtain⟨p4,c4,rfl⟩:=OwnR.shape N.o.1;refine I.o _ _ (ab.o) fun d=>?_;clear I
     try simp only[uZ]
     refine Pl [18,19] ?_
     iterate 2 (refine Pc rfl ?_;simp only[uZ])
     refine Pn ?_;have HE:=zW (zBS w1 (M.grpIn m) (.returned (.tuple #[.slice p4 e.nodes.length c4,.int .i64 (x1:Int)])) w4) (by
      have hE:=N.o;rw[G.o,HG.o];refine⟨.slice p4 e.nodes.length c4,?_,hE.1,fun y hy=>Nat.le_trans B.o.size (hE.2.1 y hy),B.o.trans (hE.2.2.mono B.o.size)⟩
      show _=Ending.returned (.tuple #[_,.int .i64 ((M.number+k+1:Nat):Int)])
      rw[hb,←aq.o])
     refine odn ?_;go_wp2_with fail
     go_ret2
     exact HE.o
    ·have av:decide ((x1:Int)≤z)=false:=decide_eq_false (by have:=fun h=>E (L.2 h);omega);have HG:=zh (J (.inr E));clear Q J L D E ag R a;go_wp2_with fail;go_roundw
     case rel=>exact⟨k,by omega,rfl,G.o.trans HG.o,HB.o⟩
     case measure =>
      show((k:Int)-1+1).toNat<((k:Int)+1).toNat
      omega
   ·have hq:(e.kind==2)=false:=by simpa using D
    have HG:=zh (J (.inl D));clear Q J L D ag R a;go_wp2_with fail;go_roundw
    case rel=>exact⟨k,by omega,rfl,G.o.trans HG.o,HB.o⟩
    case measure =>
     show((k:Int)-1+1).toNat<((k:Int)+1).toNat
     omega
theorem rnconf_calls (h:zBc S w1 j r pre M) :
  Calls prog 94 #[.pointer (some ⟨j,0,none⟩)] w1 (zBS w1 (M.grpIn M.entries.length)):=by
 have i:=h.ok.last;have g:M.number≤M.last:=Nat.le_add_right _ _;have b:=zh (rngrpAt_calls h 4611686018427387904 (by omega) (by decide));rw[upto_all M (by omega)]at b;clear h
 go_enter func94,ntmps94
 go_wp2_with fail;refine b.o.mono ?_;rintro e w2 ⟨v,rfl,d,hn,c⟩;have f:=zW (zBS w1 (M.grpIn M.entries.length) (.returned (.tuple #[v,.int .i64 ((M.grpIn M.entries.length).2:Int)])) w2) (⟨v,rfl,d,hn,c⟩);clear d hn c;go_wp2_with fail
 go_ret2
 exact f.o
theorem rnat_yes (h:zBc S w1 j r pre M)(i:Int)(hi:-9223372036854775808≤i∧i≤9223372036854775807)(aj:(M.number:Int)<i){e:Ent}(Y:M.entries[(i-(M.number:Int)-1).toNat]?=some e) :
  Calls prog 96 #[.pointer (some ⟨j,0,none⟩),.int .i64 i] w1 fun r w'=>∃v:EV,r=.returned (.tuple #[zCf e v,.int .i64 0])∧zDM w' e v∧(∀k,(v.1.ownBlock=some k∨v.2.ownBlock=some k)→w1.heap.size≤k)∧Below w1.heap.size w1 w':=by
 have al:=(List.getElem?_eq_some_iff.1 Y).1;have ai:i≤(M.last:Int):=by unfold zAJ.last;omega
 have a:=zAD w1 (.cells #[.int .i64 0,.int .i64 0,.slice none 0 0,.slice none 0 0] 50);have p:=h.ok.last;have E:=h.ok.ents e (List.mem_of_getElem? Y);obtain⟨O,C,gv,dv,ev,vs,X,am⟩:=h;obtain⟨g,c,v,rfl,hv,z,k0,k1,k2,k3⟩:=X.ent Y;obtain⟨B,t,I⟩:=z.data.slice;obtain⟨D,y,J⟩:=z.nodes.slice;obtain⟨v1,v2⟩:=v;have I:v1=.slice B e.data.length t:=I;have J:v2=.slice D e.nodes.length y:=J;subst I;subst J;have c0:=X.c 0 rfl;have c8:=X.c 8 rfl;have hf:=zBF E;generalize hk:(i-(M.number:Int)-1).toNat=k at *;have HX:=zW (EntIn w1 j g M.entries.length c M.number k e (.slice B e.data.length t,.slice D e.nodes.length y)) (⟨c8,c0,k0,k1,k2,k3⟩);have HA:=zh z
 have ap:e.data.length≤65536:=by omega
 have aq:e.nodes.length≤7:=by omega
 unfold zAJ.last at p;have ak:i=(M.number:Int)+1+(k:Int):=by omega
 have ac:=zAH c0 a;have ad:=zAH c8 a;clear X am hv z c0 c8 k0 k1 k2 k3 E hf Y hk;generalize M.entries.length=n at *;generalize M.number=b at *;have au:IntKind.i64.wrap (i-(b:Int))=(k:Int)+1:=by rw[IntWalk.i64_in _ (by omega)];omega
 have av:IntKind.i64.wrap (k:Int)=(k:Int):=IntWalk.i64_in _ (by omega);obtain⟨x0,ao⟩:∃x0,x0=b+n:=⟨_,rfl⟩;have an:IntKind.i64.wrap ((b:Int)+(n:Int))=(x0:Int):=by rw[IntWalk.i64_in _ (by omega)];omega
 have ag:decide (i≤(b:Int))=false:=decide_eq_false (by omega);have ah:decide ((x0:Int)<i)=false:=decide_eq_false (by omega);have ar:k<n:=by omega
 clear ak ao ai aj p al
 go_enter func96,ntmps96
 go_wp2_with fail
 go_quiet (fail)
 have N:=zW (Below w1.heap.size w1 ((w1.alloc (.cells #[.int .i64 0,.int .i64 0,.slice none 0 0,.slice none 0 0] 50)).drewN nq)) (a.trans ⟨rfl,rfl,rfl,by simp,fun _ _=>rfl⟩);have HR:=zW (((w1.alloc (.cells #[.int .i64 0,.int .i64 0,.slice none 0 0,.slice none 0 0] 50)).drewN nq).heap[w1.heap.size]?=_) (zAI w1 _);generalize (w1.alloc (.cells #[.int .i64 0,.int .i64 0,.slice none 0 0,.slice none 0 0] 50)).drewN nq=W at *;clear a ac ad ag ah an;go_wp2_with fail;refine ost (fun w':World=>w'.cell? ⟨j,8,none⟩=some (.slice (some ⟨g,0,none⟩) n c)∧w'.cell? ⟨j,0,none⟩=some (.int .i64 (b:Int))∧w'.cell? ⟨g,k*4,none⟩=some (.int .i64 e.term)∧w'.cell? ⟨g,k*4+1,none⟩=some (.int .i64 e.kind)∧w'.cell? ⟨g,k*4+2,none⟩=some (.slice B e.data.length t)∧w'.cell? ⟨g,k*4+3,none⟩=some (.slice D e.nodes.length y)) 17 ((zC7 HX.o (N.o.trans ⟨rfl,rfl,rfl,Nat.le_refl _,fun _ _=>rfl⟩)).all) fun d=>?_;generalize L:W.drew=W1 at *;have G:=zW (Below w1.heap.size w1 W1) (by rw[←L];exact N.o.trans ⟨rfl,rfl,rfl,Nat.le_refl _,fun _ _=>rfl⟩);have H:=zh (Eq.trans (show W1.heap[w1.heap.size]?=W.heap[w1.heap.size]? by rw[←L];rfl) HR.o);clear L;refine Pl [0,1,2,3,4,5,6,7,8,9,10,11,12,13] ?_
 iterate 14 (refine Pc rfl ?_;simp only[uZ])
 refine Pn ?_;refine oon 14 rfl fun K T=>?_;have R:=zh (rown_calls (HA.o.below G.o) (by omega) (by omega));go_wp2_with fail;refine R.o.mono ?_;rintro r F ⟨⟨u1,u2⟩,rfl,Z,U,A⟩;obtain⟨s,m,eu,-⟩:=zAL Z.data;obtain⟨q,l,en,-⟩:=zAw Z.nodes;have af:u1=.slice s e.data.length m:=eu;have ae:u2=.slice q e.nodes.length l:=en;subst af;subst ae;clear eu en;have P:=zh (G.o.trans (A.mono G.o.size));have aa:=zh (zC7 (⟨d⟩:EntIn W1 j g n c b k e (.slice B e.data.length t,.slice D e.nodes.length y)) A);have f:=zh ((A.block _ (zAB H.o)).trans H.o);have V:=zh (And.intro Z U);have Q:=zh (zAB H.o);clear Z U A;go_wp2_with fail;refine T.o _ _ (aa.o.all) fun d=>?_;clear T
 try simp only[uZ]
 refine oon 15 rfl fun K T=>?_;have r0:=zAU f.o;have r1:=zAY f.o;have r2:=zAX f.o;have r3:=zAf f.o;have fr:=zAE f.o;unfold zCf;go_wp2_with fail;have hz:((((F.setCell ⟨w1.heap.size,0,none⟩ (.int .i64 e.term)).setCell ⟨w1.heap.size,1,none⟩ (.int .i64 e.kind)).setCell ⟨w1.heap.size,2,none⟩ (.slice s e.data.length m)).setCell ⟨w1.heap.size,3,none⟩ (.slice q e.nodes.length l)).heap[w1.heap.size]?=some (.cells #[.int .i64 e.term,.int .i64 e.kind,(.slice s e.data.length m),(.slice q e.nodes.length l)] 50 (0,0)):=by
  have h1:=zAC f.o 0 (.int .i64 e.term);have h2:=zAC h1 1 (.int .i64 e.kind);have h3:=zAC h2 2 (.slice s e.data.length m);have h4:=zAC h3 3 (.slice q e.nodes.length l);simpa using h4
 have hC:Chg (fun x=>x=w1.heap.size) F ((((F.setCell ⟨w1.heap.size,0,none⟩ (.int .i64 e.term)).setCell ⟨w1.heap.size,1,none⟩ (.int .i64 e.kind)).setCell ⟨w1.heap.size,2,none⟩ (.slice s e.data.length m)).setCell ⟨w1.heap.size,3,none⟩ (.slice q e.nodes.length l)):=(((Chg.setCell F ⟨w1.heap.size,0,none⟩ _).trans (Chg.setCell _ ⟨w1.heap.size,1,none⟩ _) fun _ _ e=>e).trans (Chg.setCell _ ⟨w1.heap.size,2,none⟩ _) fun _ _ e=>e).trans (Chg.setCell _ ⟨w1.heap.size,3,none⟩ _) fun _ _ e=>e;have hB:Below w1.heap.size w1 ((((F.setCell ⟨w1.heap.size,0,none⟩ (.int .i64 e.term)).setCell ⟨w1.heap.size,1,none⟩ (.int .i64 e.kind)).setCell ⟨w1.heap.size,2,none⟩ (.slice s e.data.length m)).setCell ⟨w1.heap.size,3,none⟩ (.slice q e.nodes.length l)):=P.o.trans (hC.below P.o.size fun k hk e=>by omega);have ab:=zh (zC7 HX.o hB);have HE:=zW (∃v:EV,Ending.returned (.tuple #[.agg #[.int .i64 e.term,.int .i64 e.kind,(.slice s e.data.length m),(.slice q e.nodes.length l)],.int .i64 0])=.returned (.tuple #[zCf e v,.int .i64 0])∧zDM ((((F.setCell ⟨w1.heap.size,0,none⟩ (.int .i64 e.term)).setCell ⟨w1.heap.size,1,none⟩ (.int .i64 e.kind)).setCell ⟨w1.heap.size,2,none⟩ (.slice s e.data.length m)).setCell ⟨w1.heap.size,3,none⟩ (.slice q e.nodes.length l)) e v∧(∀k,(v.1.ownBlock=some k∨v.2.ownBlock=some k)→w1.heap.size≤k)∧Below w1.heap.size w1 ((((F.setCell ⟨w1.heap.size,0,none⟩ (.int .i64 e.term)).setCell ⟨w1.heap.size,1,none⟩ (.int .i64 e.kind)).setCell ⟨w1.heap.size,2,none⟩ (.slice s e.data.length m)).setCell ⟨w1.heap.size,3,none⟩ (.slice q e.nodes.length l))) (
  ⟨(.slice s e.data.length m,.slice q e.nodes.length l),rfl,V.o.1.keep fun x hx=>hC.block x (V.o.1.lt hx) fun e=>by have h1:=V.o.2 x hx;have h2:=Q.o;omega,fun x hx=>by have h1:=V.o.2 x hx;have h2:=Q.o;omega,hB⟩)
 have HZ:=zh hz;clear r0 r1 r2 r3 fr hC hB hz;generalize (((F.setCell ⟨w1.heap.size,0,none⟩ (.int .i64 e.term)).setCell ⟨w1.heap.size,1,none⟩ (.int .i64 e.kind)).setCell ⟨w1.heap.size,2,none⟩ (.slice s e.data.length m)).setCell ⟨w1.heap.size,3,none⟩ (.slice q e.nodes.length l)=W6 at *;refine T.o _ _ (ab.o.all) fun d=>?_;clear T
 try simp only[uZ]
 refine otk 16 (v:=?v1x16) rfl ?_;simp only[uZ];refine odn ?_;go_wp2_with fail
 (try simp only[Exit.inBlock,Exit.then])
 refine bodyPost_ret (zC2 rfl _ W6 w1.heap.size _ _ (0,0) _ rfl HZ.o underlying50 rfl (by kernel_rfl)) rfl ?_;exact HE.o
theorem rnat_no (h:zBc S w1 j r pre M)(i:Int)(K:-9223372036854775808≤i∧i≤9223372036854775807)(q:¬((M.number:Int)<i∧i≤(M.last:Int))) :
  Calls prog 96 #[.pointer (some ⟨j,0,none⟩),.int .i64 i] w1 fun r w'=>r=.returned (.tuple #[.agg #[.int .i64 0,.int .i64 0,.slice none 0 0,.slice none 0 0],.int .i64 7])∧Below w1.heap.size w1 w':=by
 have g:=zAD w1 (.cells #[.int .i64 0,.int .i64 0,.slice none 0 0,.slice none 0 0] 50);have f:=h.ok.last;obtain⟨O,C,Z,dv,N,vs,y,I⟩:=h;obtain⟨p8,L,p⟩:=y.row.shape;have v:=zAH (y.c 0 rfl) g;have s:=zAH (y.c 8 rfl) g;unfold zAJ.last at f q;have v:(w1.alloc (.cells #[.int .i64 0,.int .i64 0,.slice none 0 0,.slice none 0 0] 50)).cell? ⟨j,0,none⟩=some (.int .i64 (M.number:Int)):=v;have s:(w1.alloc (.cells #[.int .i64 0,.int .i64 0,.slice none 0 0,.slice none 0 0] 50)).cell? ⟨j,8,none⟩=some N:=s;rw[p]at s;clear y I p;generalize M.entries.length=n at *;generalize M.number=b at *;obtain⟨z,t⟩:∃z,z=b+n:=⟨_,rfl⟩;have T:IntKind.i64.wrap ((b:Int)+(n:Int))=(z:Int):=by rw[IntWalk.i64_in _ (by omega)];omega
 by_cases m:i≤(b:Int)
 focus have H:decide (i≤(b:Int))=true:=decide_eq_true m
 rotate_left
 focus have H:decide (i≤(b:Int))=false:=decide_eq_false m;have Q:decide ((z:Int)<i)=true:=decide_eq_true (by omega)
 all_goals
  clear q m t f;go_enter func96,ntmps96;go_wp2_with fail;go_quiet (fail);have l:=zW (Below w1.heap.size w1 ((w1.alloc (.cells #[.int .i64 0,.int .i64 0,.slice none 0 0,.slice none 0 0] 50)).drewN nq)) (g.trans ⟨rfl,rfl,rfl,by simp,fun _ _=>rfl⟩);have d:((w1.alloc (.cells #[.int .i64 0,.int .i64 0,.slice none 0 0,.slice none 0 0] 50)).drewN nq).heap[w1.heap.size]?=some (.cells #[.int .i64 0,.int .i64 0,.slice none 0 0,.slice none 0 0] 50):=zAI w1 _;generalize (w1.alloc (.cells #[.int .i64 0,.int .i64 0,.slice none 0 0,.slice none 0 0] 50)).drewN nq=W at *;have U:=zAU d;have V:=zAY d;have X:=zAX d;have Y:=zAf d;have P:=zAE d;have A:=zh d;clear g d v s;go_wp2_with fail;have J:((((W.setCell ⟨w1.heap.size,0,none⟩ (.int .i64 0)).setCell ⟨w1.heap.size,1,none⟩ (.int .i64 0)).setCell ⟨w1.heap.size,2,none⟩ (.slice none 0 0)).setCell ⟨w1.heap.size,3,none⟩ (.slice none 0 0)).heap[w1.heap.size]?=some (.cells #[.int .i64 0,.int .i64 0,.slice none 0 0,.slice none 0 0] 50):=by
   have B:=zAC A.o 0 (.int .i64 0);have D:=zAC B 1 (.int .i64 0);have E:=zAC D 2 (.slice none 0 0);have F:=zAC E 3 (.slice none 0 0);simpa using F
  have G:Chg (fun x=>x=w1.heap.size) W ((((W.setCell ⟨w1.heap.size,0,none⟩ (.int .i64 0)).setCell ⟨w1.heap.size,1,none⟩ (.int .i64 0)).setCell ⟨w1.heap.size,2,none⟩ (.slice none 0 0)).setCell ⟨w1.heap.size,3,none⟩ (.slice none 0 0)):=(((Chg.setCell W ⟨w1.heap.size,0,none⟩ _).trans (Chg.setCell _ ⟨w1.heap.size,1,none⟩ _) fun _ _ e=>e).trans (Chg.setCell _ ⟨w1.heap.size,2,none⟩ _) fun _ _ e=>e).trans (Chg.setCell _ ⟨w1.heap.size,3,none⟩ _) fun _ _ e=>e;have a:=zW (Below w1.heap.size w1 _) (l.o.trans (G.below l.o.size fun k R e=>by omega));(try simp only[Exit.inBlock,Exit.then]);refine bodyPost_ret (zC2 rfl _ _ w1.heap.size _ _ (0,0) _ rfl J underlying50 rfl (by kernel_rfl)) rfl ?_;exact⟨rfl,a.o⟩
end
theorem holds_drewN {w:World}{s n:Nat}{v:Value}{xs:List Value}(h:zAK w s v n xs)(q:Nat):zAK (w.drewN q) s v n xs :=
 zAK.keep h fun _ _=>rfl
theorem take_eqG {α:Type}{l m:List α}{k:Nat}{x y:α}(b:l[k]?=some x)(c:m[k]?=some y)(h:l.take k=m.take k)(e:x=y):l.take (k+1)=m.take (k+1):=by
 rw[List.take_add_one,List.take_add_one,b,c,h,e]
theorem ne_atG {α:Type}[BEq α][LawfulBEq α]{l m:List α}{k:Nat}{x y:α}(c:l[k]?=some x)(b:m[k]?=some y)(e:x≠y):(l==m)=false:=by
 rw[beq_eq_false_iff_ne];rintro rfl;rw[c]at b;exact e (Option.some.inj b)
theorem zFf {w:World}{x y:Value}{l m:List Int}(H:zBY w x l)(I:zBY w y m)(hl:l.length≤140737488355328)(hm:m.length≤140737488355328) :
  Calls prog 26 #[x,y] w (SamePost w (l==m)):=by
 by_cases d:l.length=m.length
 ·have S:=H.at
  have T:=I.at
  obtain⟨K,U,rfl⟩:=H.slice;obtain⟨py,V,rfl⟩:=I.slice;have B:((l.length:Int) != (m.length:Int))=false:=by simp[d]
  have r:=zh d;have O:=zh S;have P:=zh T;clear H I d S T;generalize E:l.length=N at *;generalize G:m.length=M at *;have z:=zh E;have A:=zh G;clear E G
  go_enter func26,ntmps26
  go_wp2
  go_loopw [5] (fun i wr=>∃k q:Nat,k≤N∧i=.int .i64 k∧l.take k=m.take k∧wr=w.drewN q) (fun i _=>N-(intOf i).toNat)
  case atStart=>exact⟨0,0,Nat.zero_le _,rfl,rfl,rfl⟩
  case round =>
   obtain⟨k,q,hk,rfl,n,rfl⟩:=hrel;have f:=zh n;clear n
   by_cases R:k<N
   ·have F:k<M:=by have:=r.o;omega
    have g:k<l.length:=by rw[z.o];exact R
    have j:k<m.length:=by rw[A.o];exact F
    have v:l[k]?=some l[k]:=List.getElem?_eq_getElem g;have J:m[k]?=some m[k]:=List.getElem?_eq_getElem j;rcases O.o with h|⟨b,o,c,W,C⟩
    ·rw[h]at g;simp at g
    rcases P.o with h|⟨b2,o2,c2,X,D⟩
    ·rw[h]at j;simp at j
    cases W;cases X;have Y:=C k _ v;have Z:=D k _ J;have t:=zh (fun e=>take_eqG v J f.o e);have Q:=zh (fun e=>ne_atG v J e);clear C D v J;generalize l[k]=a at *;generalize m[k]=b at *
    by_cases p:a=b
    ·subst p;clear g j;go_wp2_with fail
     go_quiet (fail)
     go_wp2
     go_roundw
     case rel=>exact⟨k+1,q+nq,by omega,by go_num,t.o trivial,by first|rfl|rw[World.drewN_drewN]⟩
     case measure=>simp[intOf];omega
    ·have hd:((a != b)=true):=by simpa using p
     have L:=zh p;clear p g j;go_wp2_with fail
     go_quiet (fail)
     go_wp2
     go_ret;exact⟨by rw[Q.o L.o];rfl,q+nq,by first|rfl|rw[World.drewN_drewN]⟩
   ·go_wp2
    go_ret;refine⟨?_,q,rfl⟩;have v:=f.o;rw[List.take_of_length_le (by rw[z.o];omega),List.take_of_length_le (by rw[A.o];have:=r.o;omega)]at v;simp[v]
 ·obtain⟨K,U,rfl⟩:=H.slice;obtain⟨py,V,rfl⟩:=I.slice;have B:((l.length:Int) != (m.length:Int))=true:=by simp;omega
  have s:(l==m)=false:=by rw[beq_eq_false_iff_ne];rintro rfl;exact d rfl
  rw[s];clear H I d s
  go_enter func26,ntmps26
  go_wp2
  go_ret;exact⟨rfl,0,rfl⟩
theorem zEb {w:World}{x y:Value}{l m:Bs}(I:zAb w x l)(J:zAb w y m)(hl:l.length≤140737488355328)(hm:m.length≤140737488355328) :
  Calls prog 33 #[x,y] w (SamePost w (l==m)):=by
 by_cases d:l.length=m.length
 ·have S:=I.at
  have T:=J.at
  obtain⟨px,U,rfl⟩:=I.slice;obtain⟨py,V,rfl⟩:=J.slice;have C:((l.length:Int) != (m.length:Int))=false:=by simp[d]
  have r:=zh d;have O:=zh S;have P:=zh T;clear I J d S T;generalize F:l.length=N at *;generalize H:m.length=M at *;have A:=zh F;have B:=zh H;clear F H
  go_enter func33,ntmps33
  go_wp2
  go_loopw [5] (fun i wr=>∃k q:Nat,k≤N∧i=.int .i64 k∧l.take k=m.take k∧wr=w.drewN q) (fun i _=>N-(intOf i).toNat)
  case atStart=>exact⟨0,0,Nat.zero_le _,rfl,rfl,rfl⟩
  case round =>
   obtain⟨k,q,hk,rfl,p,rfl⟩:=hrel;have g:=zh p;clear p
   by_cases R:k<N
   ·have G:k<M:=by have:=r.o;omega
    have j:k<l.length:=by rw[A.o];exact R
    have n:k<m.length:=by rw[B.o];exact G
    have z:l[k]?=some l[k]:=List.getElem?_eq_getElem j;have L:m[k]?=some m[k]:=List.getElem?_eq_getElem n;rcases O.o with h|⟨b,o,c,W,D⟩
    ·rw[h]at j;simp at j
    rcases P.o with h|⟨b2,o2,c2,X,E⟩
    ·rw[h]at n;simp at n
    cases W;cases X;have Y:=D k _ z;have Z:=E k _ L;have v:=zh (fun e=>take_eq_succ z L g.o e);have Q:=zh (fun e=>ne_at z L e);clear D E z L;generalize l[k]=a at *;generalize m[k]=b at *
    by_cases f:a=b
    ·have K:((a.toNat:Int) != (b.toNat:Int))=false:=by simp[f]
     have t:=zh f;clear f j n;go_wp2_with fail
     go_quiet (fail)
     go_wp2
     go_roundw
     case rel=>exact⟨k+1,q+nq,by omega,by go_num,v.o t.o,by first|rfl|rw[World.drewN_drewN]⟩
     case measure=>simp[intOf];omega
    ·have K:((a.toNat:Int) != (b.toNat:Int))=true:=by
      simp only[bne_iff_ne,ne_eq,Int.natCast_inj];exact fun e=>f (UInt8.toNat.inj e)
     have t:=zh f;clear f j n;go_wp2_with fail
     go_quiet (fail)
     go_wp2
     go_ret;exact⟨by rw[Q.o t.o];rfl,q+nq,by first|rfl|rw[World.drewN_drewN]⟩
   ·go_wp2
    go_ret;refine⟨?_,q,rfl⟩;have z:=g.o;rw[List.take_of_length_le (by rw[A.o];omega),List.take_of_length_le (by rw[B.o];have:=r.o;omega)]at z;simp[z]
 ·obtain⟨px,U,rfl⟩:=I.slice;obtain⟨py,V,rfl⟩:=J.slice;have C:((l.length:Int) != (m.length:Int))=true:=by simp;omega
  have s:(l==m)=false:=by rw[beq_eq_false_iff_ne];rintro rfl;exact d rfl
  rw[s];clear I J d s
  go_enter func33,ntmps33
  go_wp2
  go_ret;exact⟨rfl,0,rfl⟩
theorem texts5_calls {w:World}{x y:Value}{l m:List Bs}(H:HasN w x l)(I:HasN w y m)(hl:l.length≤140737488355328)(hm:m.length≤140737488355328) :
  Calls prog 144 #[x,y] w (SamePost w (l==m)):=by
 by_cases d:l.length=m.length
 ·have S:=H.at
  have T:=I.at
  obtain⟨K,U,rfl⟩:=H.slice;obtain⟨py,V,rfl⟩:=I.slice;have B:((l.length:Int) != (m.length:Int))=false:=by simp[d]
  have r:=zh d;have O:=zh S;have P:=zh T;clear H I d S T;generalize E:l.length=N at *;generalize G:m.length=M at *;have z:=zh E;have A:=zh G;clear E G
  go_enter func144,ntmps144
  go_wp2
  go_loopw [5] (fun i wr=>∃k q:Nat,k≤N∧i=.int .i64 k∧l.take k=m.take k∧wr=w.drewN q) (fun i _=>N-(intOf i).toNat)
  case atStart=>exact⟨0,0,Nat.zero_le _,rfl,rfl,rfl⟩
  case round =>
   obtain⟨k,q,hk,rfl,n,rfl⟩:=hrel;have f:=zh n;clear n
   by_cases R:k<N
   ·have F:k<M:=by have:=r.o;omega
    have g:k<l.length:=by rw[z.o];exact R
    have j:k<m.length:=by rw[A.o];exact F
    have v:l[k]?=some l[k]:=List.getElem?_eq_getElem g;have J:m[k]?=some m[k]:=List.getElem?_eq_getElem j;rcases O.o with h|⟨b,o,c,W,C⟩
    ·rw[h]at g;simp at g
    rcases P.o with h|⟨b2,o2,c2,X,D⟩
    ·rw[h]at j;simp at j
    cases W;cases X;have Y:=C k _ v;have Z:=D k _ J;have t:=zh (fun e=>take_eq_succ' v J f.o e);have Q:=zh (fun e=>ne_at' v J e);clear C D v J;generalize l[k]=a at *;generalize m[k]=b at *
    by_cases p:a=b
    ·subst p;clear g j;go_wp2_with fail
     go_quiet (fail)
     go_wp2
     go_roundw
     case rel=>exact⟨k+1,q+nq,by omega,by go_num,t.o trivial,by first|rfl|rw[World.drewN_drewN]⟩
     case measure=>simp[intOf];omega
    ·have hd:((a==b)=false):=by simpa using p
     have L:=zh p;clear p g j;go_wp2_with fail
     go_quiet (fail)
     go_wp2
     go_ret;exact⟨by rw[Q.o L.o];rfl,q+nq,by first|rfl|rw[World.drewN_drewN]⟩
   ·go_wp2
    go_ret;refine⟨?_,q,rfl⟩;have v:=f.o;rw[List.take_of_length_le (by rw[z.o];omega),List.take_of_length_le (by rw[A.o];have:=r.o;omega)]at v;simp[v]
 ·obtain⟨K,U,rfl⟩:=H.slice;obtain⟨py,V,rfl⟩:=I.slice;have B:((l.length:Int) != (m.length:Int))=true:=by simp;omega
  have s:(l==m)=false:=by rw[beq_eq_false_iff_ne];rintro rfl;exact d rfl
  rw[s];clear H I d s
  go_enter func144,ntmps144
  go_wp2
  go_ret;exact⟨rfl,0,rfl⟩
def entEq (e f:Ent):Bool:=decide (e.term=f.term)&&decide (e.kind=f.kind)&&(e.data==f.data)&&(e.nodes==f.nodes)
theorem zFF (e:Ent):entEq e e=true:=by simp[entEq]
theorem zCx {w:World}{e f:Ent}{v u:EV}(y:zBH w e v)(t:zBH w f u) :
  Calls prog 37 #[zCf e v,zCf f u] w fun r w'=>r=.returned (.bool (entEq e f))∧Below w.heap.size w w':=by
 obtain⟨l,k1,m,h⟩:=e;obtain⟨t2,k2,n,A⟩:=f;obtain⟨D,v2⟩:=v;obtain⟨B,C⟩:=u;have k:=(zAD w (.cells #[.int .i64 l,.int .i64 k1,D,v2] 50)).alloc (by simp) (.cells #[.int .i64 t2,.int .i64 k2,B,C] 50);have c:=y.below k;have b:=t.below k;have g:=zh (zEb c.data b.data (Nat.le_trans c.dl (by decide)) (Nat.le_trans b.dl (by decide)));have p:=zh (fun q=>zFf (holds_drewN c.nodes q) (holds_drewN b.nodes q) (Nat.le_trans c.nl (by decide)) (Nat.le_trans b.nl (by decide)));have j:=zh k;clear k y t c b;unfold zCf entEq;dsimp only at g p ⊢
 by_cases d:l=t2
 ·have z:(l==t2)=true:=by simpa using d
  rw[decide_eq_true d]
  by_cases i:k1=k2
  ·have a:(k1==k2)=true:=by simpa using i
   rw[decide_eq_true i];subst d;subst i;cases s:m==n with
   | true =>
    rw[s]at g
    go_enter func37,ntmps37
    go_wp2_with fail;refine g.o.mono ?_;rintro r w2 ⟨rfl,q,rfl⟩;go_wp2_with fail;refine(p.o q).mono ?_;rintro r w3 ⟨rfl,q2,rfl⟩;go_wp2_with fail;go_ret;exact⟨by simp,j.o.trans ⟨rfl,rfl,rfl,Nat.le_refl _,fun _ _=>rfl⟩⟩
   | false =>
    rw[s]at g
    go_enter func37,ntmps37
    go_wp2_with fail;refine g.o.mono ?_;rintro r w2 ⟨rfl,q,rfl⟩;go_wp2_with fail;go_ret;exact⟨by simp,j.o.trans ⟨rfl,rfl,rfl,Nat.le_refl _,fun _ _=>rfl⟩⟩
  ·have a:(k1==k2)=false:=by simpa using i
   rw[decide_eq_false i];subst d
   go_enter func37,ntmps37
   go_wp2_with fail;go_ret;exact⟨by simp,j.o.trans ⟨rfl,rfl,rfl,Nat.le_refl _,fun _ _=>rfl⟩⟩
 ·have z:(l==t2)=false:=by simpa using d
  rw[decide_eq_false d]
  go_enter func37,ntmps37
  go_wp2_with fail;go_ret;exact⟨by simp,j.o.trans ⟨rfl,rfl,rfl,Nat.le_refl _,fun _ _=>rfl⟩⟩
end Go.Proofs.YtapfnehdgailmaaGreat
