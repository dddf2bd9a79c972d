/- What the program's functions and the document's do, and plain laws, for PZoneStates. -/
import Derived.BigQuiet
import Derived.ChangeOld
import Derived.Deep.DrawnRows
import Derived.Deep.Matrix
import Derived.Deep.RegionHeld
import Derived.Deep.RegionHeld3
import Derived.Lib.Hide
import Derived.Lib.SlParts
import Derived.Maps.OwnOps
import Derived.Maps.RangeWalk
import Derived.Maps.StringElems
import Derived.OpenShut
import Derived.ProofKit
import Derived.ShutString
import Derived.SizedLaws
import Derived.WalkKit
import Derived.WalkLawsBesides
import Derived.WalkSpells
import Derived.Test.YtmcanphlgkolcaaGreatDoorChecked
import Derived.Test.YtmcanphlgkolcaaGreatDoorRows
import Derived.Test.YtmcanphlgkolcaaGreatDoorCShelf
open Go.Proofs.Tryz
set_option maxRecDepth 100000
set_option maxHeartbeats 64000000
namespace Go.Sat
theorem zh {p:Prop}(h:p):Go.RowKit.Hid p:=h
theorem zW (p:Prop)(h:p):Go.RowKit.Hid p:=h
end Go.Sat
theorem Go.RowKit.Hid.o {p:Prop}(h:Go.RowKit.Hid p):p:=h
theorem Go.Shut.o {p:Prop}(h:Go.Shut p):p:=h
namespace Go.Sat
open Go.Maps (Keyed)
abbrev Bs:=List UInt8
section
variable {α β:Type}
def get (n:Bs)(L:List (Bs×α)):Option α:=(L.find? (fun p=>p.1==n)).map (·.2)
def del (n:Bs)(L:List (Bs×α)):List (Bs×α):=L.filter (fun p=>!(p.1==n))
def ins (x:Bs×α):List (Bs×α)→List (Bs×α)
 | []=>[x]
 | y::r=>if bytesBefore x.1 y.1 then x::y::r else y::ins x r
def put (n:Bs)(a:α)(L:List (Bs×α)):List (Bs×α):=ins (n,a) (del n L)
def Srt (L:List (Bs×α)):Prop:=L.Pairwise (fun p q=>bytesBefore p.1 q.1=true)
def zA7 (f:α→Nat)(L:List (Bs×α)):Nat:=(L.map fun p=>f p.2).sum
theorem zDK (a:Bs):bytesBefore a a=false:=WideAt.bytes_irrefl a
theorem zDU {a b c:Bs}(h:bytesBefore a b=true)(k:bytesBefore b c=true):bytesBefore a c=true:=WideShapes.bytes_trans a b c h k
theorem zEX (a b:Bs)(h:a≠b):bytesBefore a b=true∨bytesBefore b a=true:=WideAt.bytes_total a b h
theorem bb_ne {a b:Bs}(h:bytesBefore a b=true):a≠b:=by
 rintro rfl;rw[zDK]at h;cases h
theorem srt_nil:Srt ([]:List (Bs×α)):=List.Pairwise.nil
theorem zDd {n:Bs}{L:List (Bs×α)}(h:Srt L):Srt (del n L):=h.filter _
theorem mem_ins {x y:Bs×α}:∀{L:List (Bs×α)},y∈ins x L↔y=x∨y∈L
 | []=>by simp[ins]
 | z::r=>by
  unfold ins
  split
  ·simp
  ·simp[mem_ins (L:=r)]
   constructor
   ·rintro(h|h|h)<;>simp[h]
   ·rintro(h|h|h)<;>simp[h]
theorem ins_perm (x:Bs×α):∀(L:List (Bs×α)),(ins x L).Perm (x::L)
 | []=>List.Perm.refl _
 | z::r=>by
  unfold ins
  split
  ·exact List.Perm.refl _
  ·exact((ins_perm x r).cons z).trans (List.Perm.swap x z r)
theorem srt_ins {x:Bs×α}:∀{L:List (Bs×α)},Srt L→(∀p∈L,p.1≠x.1)→Srt (ins x L)
 | [],_,_=>by simp[ins,Srt]
 | y::r,h,hne=>by
  obtain⟨f,i⟩:=List.pairwise_cons.1 h;unfold ins
  split
  ·rename_i hb
   refine List.pairwise_cons.2 ⟨fun q b=>?_,h⟩;rcases List.mem_cons.1 b with rfl|b
   ·exact hb
   ·exact zDU hb (f q b)
  ·rename_i hb
   have d:bytesBefore y.1 x.1=true:=by
    rcases zEX x.1 y.1 (hne y (by simp)).symm with c|c
    ·exact absurd c hb
    ·exact c
   refine List.pairwise_cons.2 ⟨fun q b=>?_,srt_ins i (fun p j=>hne p (by simp[j]))⟩;rcases mem_ins.1 b with rfl|b
   ·exact d
   ·exact f q b
theorem zBJ {n:Bs}{p:Bs×α}{L:List (Bs×α)}:p∈del n L↔p∈L∧p.1≠n:=by
 simp[del]
theorem zBw {n:Bs}{a:α}{L:List (Bs×α)}(h:Srt L):Srt (put n a L) :=
 srt_ins (zDd h) fun _ b=>(zBJ.1 b).2
theorem zBg {n:Bs}{a:α}{p:Bs×α}{L:List (Bs×α)}:p∈put n a L↔p=(n,a)∨(p∈L∧p.1≠n):=by
 unfold put;rw[mem_ins,zBJ]
theorem put_perm (n:Bs)(a:α)(L:List (Bs×α)):(put n a L).Perm ((n,a)::del n L):=ins_perm _ _
theorem zC8 {n:Bs}{L:List (Bs×α)}:get n L=none↔∀p∈L,p.1≠n:=by
 simp[get,List.find?_eq_none]
theorem zBp {n:Bs}{a:α}{L:List (Bs×α)}(h:get n L=some a):(n,a)∈L:=by
 simp only[get,Option.map_eq_some_iff]at h;obtain⟨p,c,rfl⟩:=h;have d:=List.mem_of_find?_eq_some c;have b:=List.find?_some c;simp at b;rw[←b];exact d
theorem zEh {L:List (Bs×α)}(h:Srt L){p q:Bs×α}(j:p∈L)(k:q∈L)(e:p.1=q.1):p=q:=by
 induction L with
 | nil=>simp at j
 | cons y r ih =>
  obtain⟨i,m⟩:=List.pairwise_cons.1 h;rcases List.mem_cons.1 j with f|c
  ·rcases List.mem_cons.1 k with d|b
   ·rw[f,d]
   ·exact absurd (f▸e) (bb_ne (i q b))
  ·rcases List.mem_cons.1 k with d|b
   ·exact absurd (d▸e).symm (bb_ne (i p c))
   ·exact ih m c b
theorem zCJ {L:List (Bs×α)}(h:Srt L){n:Bs}{a:α}(d:(n,a)∈L):get n L=some a:=by
 cases c:get n L with
 | none=>exact absurd rfl (zC8.1 c _ d)
 | some b =>
  have:=zEh h d (zBp c) rfl;simp at this;rw[this]
theorem get_iff {L:List (Bs×α)}(h:Srt L){n:Bs}{a:α}:get n L=some a↔(n,a)∈L:=⟨zBp,zCJ h⟩
theorem zBe {L:List (Bs×α)}(h:Srt L)(n:Bs)(a:α):get n (put n a L)=some a :=
 zCJ (zBw h) (zBg.2 (.inl rfl))
theorem zBD {L:List (Bs×α)}(h:Srt L){n m:Bs}(a:α)(c:m≠n):get m (put n a L)=get m L:=by
 cases d:get m L with
 | none =>
  rw[zC8]at d ⊢;intro p f;rcases zBg.1 f with rfl|⟨f,_⟩
  ·exact c.symm
  ·exact d p f
 | some b=>exact zCJ (zBw h) (zBg.2 (.inr ⟨zBp d,c⟩))
theorem zDp (n:Bs)(L:List (Bs×α)):get n (del n L)=none:=zC8.2 fun _ b=>(zBJ.1 b).2
theorem zB8 {L:List (Bs×α)}(h:Srt L){n m:Bs}(d:m≠n):get m (del n L)=get m L:=by
 cases c:get m L with
 | none=>rw[zC8]at c ⊢;exact fun p f=>c p (zBJ.1 f).1
 | some b=>exact zCJ (zDd h) (zBJ.2 ⟨zBp c,d⟩)
theorem zCR {n:Bs}{L:List (Bs×α)}(h:get n L=none):del n L=L:=by
 rw[zC8]at h;exact List.filter_eq_self.2 fun p b=>by simpa using h p b
theorem sum_perm {f:α→Nat}{L L':List (Bs×α)}(h:L.Perm L'):zA7 f L=zA7 f L':=by
 induction h with
 | nil=>rfl
 | cons x _ ih=>simp only[zA7,List.map_cons,List.sum_cons]at ih ⊢;omega
 | swap x y l=>simp only[zA7,List.map_cons,List.sum_cons];omega
 | trans _ _ ih1 ih2=>exact ih1.trans ih2
theorem sum_cons (f:α→Nat)(x:Bs×α)(L:List (Bs×α)):zA7 f (x::L)=f x.2+zA7 f L:=rfl
theorem sum_put (f:α→Nat)(n:Bs)(a:α)(L:List (Bs×α)):zA7 f (put n a L)=f a+zA7 f (del n L):=sum_perm (put_perm n a L)
theorem split_at {L:List (Bs×α)}(h:Srt L){n:Bs}{a:α}(b:get n L=some a):L.Perm ((n,a)::del n L):=by
 induction L with
 | nil=>simp[get]at b
 | cons y r ih =>
  obtain⟨k,m⟩:=List.pairwise_cons.1 h
  by_cases c:y.1=n
  ·have j:y=(n,a):=zEh h (by simp) (zBp b) c;have f:del n (y::r)=r:=by
    have d:∀p∈r,bytesBefore y.1 p.1=true:=k;unfold del;rw[List.filter_cons,if_neg (by simp[c])];refine List.filter_eq_self.2 fun p o=>?_;have:=bb_ne (d p o);rw[c]at this;simpa using fun e=>this (Eq.symm e)
   rw[f,j]
  ·have i:get n r=some a:=by
    simp only[get,List.find?_cons]at b;rw[show(y.1==n)=false by simpa using c]at b;exact b
   have f:del n (y::r)=y::del n r:=by
    unfold del;rw[List.filter_cons,if_pos (by simpa using c)]
   rw[f];exact((ih m i).cons y).trans (List.Perm.swap _ _ _)
theorem zC1 {f:α→Nat}{L:List (Bs×α)}(h:Srt L){n:Bs}{a:α}(b:get n L=some a):zA7 f L=f a+zA7 f (del n L):=sum_perm (split_at h b)
theorem len_put (n:Bs)(a:α)(L:List (Bs×α)):(put n a L).length=(del n L).length+1:=(put_perm n a L).length_eq
theorem len_del {L:List (Bs×α)}(h:Srt L){n:Bs}{a:α}(b:get n L=some a):L.length=(del n L).length+1:=(split_at h b).length_eq
theorem len_del_le (n:Bs)(L:List (Bs×α)):(del n L).length≤L.length:=List.length_filter_le _ _
def mp (g:α→β)(L:List (Bs×α)):List (Bs×β):=L.map fun p=>(p.1,g p.2)
theorem mp_ins (g:α→β)(x:Bs×α):∀L:List (Bs×α),mp g (ins x L)=ins (x.1,g x.2) (mp g L)
 | []=>rfl
 | y::r=>by
  simp only[ins,mp,List.map_cons]
  split
  ·simp
  ·simp only[List.map_cons];rw[show List.map (fun p:Bs×α=>(p.1,g p.2)) (ins x r)=mp g (ins x r)from rfl,mp_ins g x r];rfl
theorem mp_del (g:α→β)(n:Bs)(L:List (Bs×α)):mp g (del n L)=del n (mp g L):=by
 simp only[mp,del,List.filter_map];rfl
theorem mp_put (g:α→β)(n:Bs)(a:α)(L:List (Bs×α)):mp g (put n a L)=put n (g a) (mp g L):=by
 simp only[put,mp_ins,mp_del]
theorem mp_get (g:α→β)(n:Bs)(L:List (Bs×α)):get n (mp g L)=(get n L).map g:=by
 simp only[get,mp,List.find?_map,Option.map_map];rfl
theorem mp_srt {g:α→β}{L:List (Bs×α)}(h:Srt L):Srt (mp g L):=by
 unfold Srt mp;rw[List.pairwise_map];exact h
theorem mp_len (g:α→β)(L:List (Bs×α)):(mp g L).length=L.length:=by simp[mp]
theorem mp_sum (f:β→Nat)(g:α→β)(L:List (Bs×α)):zA7 f (mp g L)=zA7 (fun a=>f (g a)) L:=by
 simp only[zA7,mp,List.map_map];rfl
theorem srt_ext {L M:List (Bs×α)}(j:Srt L)(k:Srt M)(h:∀n,get n L=get n M):L=M:=by
 have b:∀p,p∈L↔p∈M:=fun p=>by rw[←get_iff j (n:=p.1) (a:=p.2),h,get_iff k]
 induction L generalizing M with
 | nil =>
  cases M with
  | nil=>rfl
  | cons y s=>exact absurd ((b y).2 (by simp)) (by simp)
 | cons x r ih =>
  cases M with
  | nil=>exact absurd ((b x).1 (by simp)) (by simp)
  | cons y s =>
   obtain⟨f,B⟩:=List.pairwise_cons.1 j;obtain⟨i,C⟩:=List.pairwise_cons.1 k;have d:x=y:=by
    rcases List.mem_cons.1 ((b x).1 (by simp))with e|z
    ·exact e
    ·rcases List.mem_cons.1 ((b y).2 (by simp))with e|A
     ·exact e.symm
     ·have m:=i x z;have o:=f y A;have:=zDU m o;rw[zDK]at this;cases this
   subst d;have v:r=s:=by
    refine ih B C (fun n=>?_) fun p=>?_
    ·by_cases hn:x.1=n
     ·have q:get n r=none:=zC8.2 fun p c e=>bb_ne (f p c) (hn.trans e.symm);have t:get n s=none:=zC8.2 fun p c e=>bb_ne (i p c) (hn.trans e.symm);rw[q,t]
     ·have:=h n;simp only[get,List.find?_cons]at this;rw[show(x.1==n)=false by simpa using hn]at this;exact this
    ·have:=b p;simp only[List.mem_cons]at this
     constructor
     ·intro c;rcases this.1 (.inr c)with e|e
      ·subst e;exact absurd rfl (bb_ne (f p c))
      ·exact e
     ·intro c;rcases this.2 (.inr c)with e|e
      ·subst e;exact absurd rfl (bb_ne (i p c))
      ·exact e
   rw[v]
end
/-! ### The reading of a map in memory. -/
section
variable {H α:Type}
def dm (g:α→DataW H)(L:List (Bs×α)):DataW H:=.map (L.map fun p=>(Lit.string p.1,g p.2))
theorem sk (a b:Bs):(Lit.string a).sameKey (.string b)=(a==b):=rfl
theorem dm_insert (g:α→DataW H)(x:Bs×α):∀L:List (Bs×α),DataW.insert (Lit.string x.1,g x.2) (L.map fun p=>(Lit.string p.1,g p.2))=(ins x L).map fun p=>(Lit.string p.1,g p.2)
 | []=>rfl
 | y::r=>by
  have f:=dm_insert g x r;have c:DataW.insert (Lit.string x.1,g x.2) ((y::r).map fun p=>(Lit.string p.1,g p.2)) =
    (if bytesBefore x.1 y.1=true then(Lit.string x.1,g x.2)::(Lit.string y.1,g y.2)::r.map fun p=>(Lit.string p.1,g p.2)
     else(Lit.string y.1,g y.2)::DataW.insert (Lit.string x.1,g x.2) (r.map fun p=>(Lit.string p.1,g p.2))):=rfl
  have d:ins x (y::r)=if bytesBefore x.1 y.1=true then x::y::r else y::ins x r:=rfl
  rw[c,f,d]
  by_cases b:bytesBefore x.1 y.1=true
  ·rw[if_pos b,if_pos b];rfl
  ·rw[if_neg b,if_neg b];rfl
theorem dm_del (g:α→DataW H)(n:Bs)(L:List (Bs×α)):(dm g L).del (.string n)=dm g (del n L):=by
 simp only[dm,DataW.del,del,List.filter_map];rfl
theorem dm_put (g:α→DataW H)(n:Bs)(a:α)(L:List (Bs×α)):(dm g L).put (.string n) (g a)=dm g (put n a L):=by
 have h:=dm_insert g (n,a) (del n L);have e:(dm g L).put (.string n) (g a)=.map (DataW.insert (Lit.string n,g a) ((del n L).map fun p=>(Lit.string p.1,g p.2))):=by
  simp only[dm,DataW.put,del,List.filter_map];rfl
 rw[e,h];rfl
theorem dm_atKey (g:α→DataW H)(n:Bs)(L:List (Bs×α))(z:DataW H):(dm g L).atKey (.string n) z=((get n L).map g).getD z:=by
 simp only[dm,DataW.atKey,List.find?_map,get,Option.map_map];rw[show((fun p:Lit×DataW H=>p.1.sameKey (Lit.string n)) ∘ fun p:Bs×α=>(Lit.string p.1,g p.2))=fun p=>p.1==n from rfl];cases List.find? (fun p:Bs×α=>p.1==n) L<;>rfl
theorem dm_has (g:α→DataW H)(n:Bs)(L:List (Bs×α)):Maps.has (dm g L) (.string n)=(get n L).isSome:=by
 simp only[dm,Maps.has,List.any_map,get,Option.isSome_map];rw[show((fun p:Lit×DataW H=>p.1.sameKey (Lit.string n)) ∘ fun p:Bs×α=>(Lit.string p.1,g p.2))=fun p=>p.1==n from rfl]
 induction L with
 | nil=>rfl
 | cons y r ih =>
  simp only[List.any_cons,List.find?_cons];cases(y.1==n)<;>simp[ih]
theorem dm_size (g:α→DataW H)(L:List (Bs×α)):Maps.size (dm g L)=L.length:=by simp[dm,Maps.size]
theorem exactly {w:World}{P:Program}{k:TypeId}{R:Value→Option (DataW H×List MemPlace)}{b n:Nat}{D:DataW H}(h:w.ownsMap P k R b n D):w.ownsMap P k R b (Maps.size D) D:=by
 obtain⟨es,c,d,F,f,rfl⟩:=h;exact⟨es,c,d,F,by simp[Maps.size,length_sorted],rfl⟩
def ptrR:Value→Option (DataW Nat×List MemPlace)
 | .pointer (some ⟨b,0,none⟩)=>some (.held b,[])
 | .pointer none=>some (.nil,[])
 | _=>none
theorem ptrR_inv {v:Value}{y:DataW Nat×List MemPlace}{b:Nat}(h:ptrR v=some y)(c:y.1=.held b):v=.pointer (some ⟨b,0,none⟩):=by
 unfold ptrR at h
 split at h
 ·simp at h;subst h;simp at c;rw[c]
 ·simp at h;subst h;simp at c
 ·simp at h
end
end Go.Sat
namespace Go.Sat
open Go.RowKit
def OwnR (w:World)(e:TypeId)(size:Nat)(v:Value)(n:Nat)(xs:List Value):Prop :=
 xs.length=n*size ∧
 ((v=.slice none 0 0∧n=0) ∨
  ∃g cap cur,v=.slice (some ⟨g,0,none⟩) n cap∧w.heap[g]?=some (.cells cur e (0,0))∧n≤cap∧cap≤maxLen∧cap*size≤cur.size∧cur.toList.take (n*size)=xs)
def zBH (w:World)(size:Nat)(v:Value)(n:Nat)(xs:List Value):Prop :=
 xs.length=n*size∧∃p cap,v=.slice p n cap∧(p=none→n=0)∧∀a,p=some a→∀(i:Nat) u,xs[i]?=some u→w.cell? (a.add i)=some u
section
variable {w w':World} {e:TypeId} {size:Nat} {v:Value} {n:Nat} {xs:List Value}
theorem OwnR.nil (w:World)(e:TypeId)(size:Nat):OwnR w e size (.slice none 0 0) 0 []:=⟨by simp,.inl ⟨rfl,rfl⟩⟩
theorem OwnR.lt (h:OwnR w e size v n xs){k:Nat}(b:v.ownBlock=some k):k<w.heap.size:=by
 rcases h.2 with⟨rfl,_⟩|⟨g,c,cur,rfl,d,_⟩
 ·simp[Value.ownBlock]at b
 ·simp[Value.ownBlock]at b;subst b;exact(Array.getElem?_eq_some_iff.1 d).1
theorem OwnR.keep (h:OwnR w e size v n xs)(c:∀k,v.ownBlock=some k→w'.heap[k]?=w.heap[k]?):OwnR w' e size v n xs:=by
 refine⟨h.1,?_⟩;rcases h.2 with hn|⟨g,b,cur,rfl,d,rest⟩
 ·exact .inl hn
 ·exact .inr ⟨g,b,cur,rfl,(c g rfl).trans d,rest⟩
theorem add_zero (g j:Nat):(⟨g,0,none⟩:Addr).add j=⟨g,j,none⟩:=by
 unfold Addr.add
 split<;>simp_all
theorem OwnR.cells (h:OwnR w e size v n xs){g:Nat}(d:v.ownBlock=some g):∀j u,xs[j]?=some u→w.cell? ((⟨g,0,none⟩:Addr).add j)=some u:=by
 intro j u c;rcases h.2 with⟨rfl,_⟩|⟨k,i,cur,rfl,f,_,_,_,b⟩
 ·simp[Value.ownBlock]at d
 ·simp[Value.ownBlock]at d;subst d;rw[add_zero,cell_of_row w k j cur e (0,0) f];rw[←b,List.getElem?_take]at c
  split at c
  ·simpa using c
  ·cases c
theorem OwnR.holds (h:OwnR w e size v n xs):zBH w size v n xs:=by
 refine⟨h.1,?_⟩;rcases h.2 with⟨rfl,rfl⟩|⟨g,b,cur,rfl,d,_⟩
 ·exact⟨none,0,rfl,fun _=>rfl,fun a c=>by cases c⟩
 ·refine⟨some ⟨g,0,none⟩,b,rfl,fun e=>by(cases e),fun a c i u f=>?_⟩;cases c;exact h.cells rfl i u f
theorem OwnR.shape (h:OwnR w e size v n xs):∃p c,v=.slice p n c:=by
 obtain⟨_,p,c,rfl,_⟩:=h.holds;exact⟨p,c,rfl⟩
theorem OwnR.of_kit {base:Nat}(h:w.ownsRow base e size v n xs):OwnR w e size v n xs:=by
 refine⟨h.1,?_⟩;rcases h.2 with hn|⟨g,b,cur,rfl,_,i,d,c,f,j⟩
 ·exact .inl hn
 ·exact .inr ⟨g,b,cur,rfl,i,d,c,by omega,j⟩
theorem OwnR.block_ge {base:Nat}(h:w.ownsRow base e size v n xs){k:Nat}(b:v.ownBlock=some k):base≤k:=(World.ownsRow.lt h k b).1
theorem zBH.len (h:zBH w size v n xs):xs.length=n*size:=h.1
theorem zBH.keep (h:zBH w size v n xs)(j:∀k,v.ownBlock=some k→w'.heap[k]?=w.heap[k]?):zBH w' size v n xs:=by
 obtain⟨o,p,b,rfl,f,m⟩:=h;refine⟨o,p,b,rfl,f,fun a c i u q=>?_⟩;rw[←m a c i u q];refine World.cell?_of_block ?_;have d:(a.add i).block=a.block:=by unfold Addr.add;split<;>rfl
 rw[d];exact j a.block (by rw[c];rfl)
end
section
variable {P:Program} (w:World)
theorem run_app (t ty e:TypeId)(i:TypeInfo)(z:Value)(size bytes:Nat)(O:P.underlying t=some (.slice e))(L:P.info? e=some i)(K:i.zero=some z)
  (F:i.size=size) (S:i.bytes=bytes) (Y:z.cells.size=size) (aa:0<size)
  (v:Value) (n:Nat) (xs:List Value) (d:OwnR w e size v n xs)
  (x:Value) (m:Nat) (b:List Value) (X:zBH w size x m b) (h1:∀u∈b,u.oneCell'=true)
  (G:n+m≤maxLen) (s:(n+m)*bytes≤140737488355328) :
  ∃v' w',(Builtin.append_ #[t,t] ty #[v,x]).run P w=.ok v' w'∧OwnR w' e size v' (n+m) (xs++b)∧w.grownBy w' v.ownBlock ∧
   (v'.ownBlock=v.ownBlock∨∃g,v'.ownBlock=some g∧w.heap.size≤g):=by
 subst F;subst S;obtain⟨D,p,c,rfl,W,f⟩:=X;have R:n+m≤9223372036854775807:=by simp only[maxLen]at G;omega
 have y:(xs++b).length=(n+m)*i.size:=by rw[List.length_append,d.1,D,Nat.add_mul]
 by_cases Z:m=0
 ·subst Z;have hn:b=[]:=List.eq_nil_of_length_eq_zero (by simpa using D);subst hn;refine⟨v,w,?_,by simpa using d,⟨rfl,rfl,rfl,Nat.le_refl _,fun _ _ _=>rfl⟩,.inl rfl⟩;have I:(Builtin.firstCells i.size 0 (.slice p 0 c)).run P w=.ok #[] w:=by
   cases p<;>simp[Builtin.firstCells,loadCells,loadCellsFrom]
  rcases d.2 with⟨rfl,rfl⟩|⟨g,q,cur,rfl,T,M,C,H,B⟩
  ·simp[Builtin.append_,run_underlying O,sizeOf,typeInfo,L,Builtin.lenOf,I]
  ·simp[Builtin.append_,run_underlying O,sizeOf,typeInfo,L,Builtin.lenOf,I,M,storeCells]
 obtain⟨a,rfl⟩:∃a,p=some a:=by
  cases p with
  | none=>exact absurd (W rfl) Z
  | some a=>exact⟨a,rfl⟩
 have f:=f a rfl;have A:∀(o:Nat),o<n+m→∀(Q:Option Nat),
   OwnR (w.drew.alloc (.cells (xs.toArray++b.toArray++Builtin.zeroCells z.cells (grownCap w (n+m) o e-(n+m))) e)) e i.size
    (.slice (some ⟨w.heap.size,0,none⟩) (n+m) (grownCap w (n+m) o e)) (n+m) (xs++b) ∧
   w.grownBy (w.drew.alloc (.cells (xs.toArray++b.toArray++Builtin.zeroCells z.cells (grownCap w (n+m) o e-(n+m))) e)) Q:=by
  intro o ho Q;have U:=grownCap_ge w (n+m) o e;have C:grownCap w (n+m) o e≤maxLen:=grownCap_le_maxLen w (n+m) o e G;refine⟨⟨y,.inr ⟨w.heap.size,_,_,rfl,heap_alloc_new w.drew _,U,C,?_,?_⟩⟩,⟨rfl,rfl,rfl,by simp,fun k V _=>heap_alloc_old w.drew _ V⟩⟩
  ·simp only[Array.size_append,List.size_toArray,size_zeroCells,Y,d.1,D,←Nat.add_mul];apply Nat.le_of_eq
   congr 1
   omega
  ·simp only[Array.toList_append,List.append_assoc];rw[←List.append_assoc,←y];exact List.take_left
 rcases d.2 with⟨rfl,rfl⟩|⟨g,q,cur,rfl,T,M,C,H,B⟩
 ·have X:xs=[]:=List.eq_nil_of_length_eq_zero (by simpa using d.1);subst X;have N:=run_append_nil (P:=P) w t ty e i z O L K a m c b D f (by omega) (by omega) (by have hb:=s;simp only[Nat.zero_add]at hb;omega);have h:=A 0 (by omega) (Value.ownBlock (.slice none 0 0));simp only[Nat.zero_add,List.nil_append,Array.empty_append]at h ⊢;exact⟨_,_,N,h.1,h.2,.inr ⟨_,rfl,Nat.le_refl _⟩⟩
 ·by_cases r:n+m≤q
  ·have J:n*i.size+b.length≤cur.size:=by
    rw[D,←Nat.add_mul];exact Nat.le_trans (Nat.mul_le_mul_right _ r) H
   have N:=run_append_room (P:=P) w t ty e i O L g n q cur T a m c b D f h1 r J;refine⟨_,_,N,⟨y,.inr ⟨g,q,_,rfl,setRow_heap w g cur _ e _ T,r,C,?_,?_⟩⟩,⟨rfl,rfl,rfl,by simp,fun k _ V=>setRow_other w g k _ (fun e=>V (by simp[Value.ownBlock,e]))⟩,.inl rfl⟩
   ·simp only[List.size_toArray,List.length_append,List.length_take,List.length_drop,Array.length_toList];omega
   ·rw[B,←y];exact List.take_left
  ·have E:∀j u,xs[j]?=some u→w.cell? ((⟨g,0,none⟩:Addr).add j)=some u:=d.cells (g:=g) rfl;have N:=run_append_grow (P:=P) w t ty e i z O L K ⟨g,0,none⟩ n q xs d.1 E a m c b D f (by omega) (by omega) (growslice_fits (by omega) s);have h:=A q (by omega) (Value.ownBlock (.slice (some ⟨g,0,none⟩) n q));exact⟨_,_,N,h.1,h.2,.inr ⟨_,rfl,Nat.le_refl _⟩⟩
theorem zAc {ops:Array Oper}{rest:List Oper}{o:Oper}{a:Act}{Q:Exit→Act→World→Prop}(b:o.guard=none)(s x:Operand)(t:TypeId)
  (k:o.op=.call {callee:=.builtin .append,args:=#[s,x],argTypes:=#[t,t] })
  (e:TypeId) (i:TypeInfo) (z:Value) (size bytes:Nat) (ht:P.underlying t=some (.slice e)) (hi:P.info? e=some i) (hz:i.zero=some z)
  (hsize:i.size=size) (hby:i.bytes=bytes) (hzs:z.cells.size=size) (hsz:0<size)
  (v:Value) (n:Nat) (xs:List Value) (hs:a.eval s=v) (hown:OwnR w e size v n xs)
  (xv:Value) (m:Nat) (news:List Value) (hxv:a.eval x=xv) (hx:zBH w size xv m news) (h1:∀u∈news,u.oneCell'=true)
  (h63:n+m≤maxLen) (hbytes:(n+m)*bytes≤140737488355328)
  (h:∀v' w',OwnR w' e size v' (n+m) (xs++news)→w.grownBy w' v.ownBlock→(v'.ownBlock=v.ownBlock∨∃g,v'.ownBlock=some g∧w.heap.size≤g)→wpList P ops Q rest (a.put o.dst v') w'):wpList P ops Q (o::rest) a w :=
 wpList_plain b fun K j=>by
  obtain⟨v',w',p,c,d,f⟩:=run_app (P:=P) w t o.type e i z size bytes ht hi hz hsize hby hzs hsz v n xs hown xv m news hx h1 h63 hbytes;unfold Oper.wp execOp;simp only[k,resolve,invoke,builtin,Sem.run_bind,Sem.run_pure,Result.andThen_ok,List.map_toArray,List.map_cons,List.map_nil,hs,hxv,p];exact j _ _ (h v' w' c d f)
end
/-! ### Bytes -/
def zAX (l:Bs):List Value:=l.map fun u=>.int .u8 (u.toNat:Int)
theorem bytesV_len (l:Bs):(zAX l).length=l.length:=by simp[zAX]
theorem bytesV_app (l m:Bs):zAX (l++m)=zAX l++zAX m:=by simp[zAX]
theorem zEJ (l:Bs)(k:Nat):zAX (l.take k)=(zAX l).take k:=by simp[zAX,List.map_take]
theorem zAZ (l:Bs):∀u∈zAX l,u.oneCell'=true:=by
 intro u b;obtain⟨x,_,rfl⟩:=List.mem_map.1 b;rfl
def zAf (w:World)(v:Value)(l:Bs):Prop:=zBH w 1 v l.length (zAX l)
def zA4 (w:World)(e:TypeId)(v:Value)(l:Bs):Prop:=OwnR w e 1 v l.length (zAX l)
theorem zA4.has {w:World}{e:TypeId}{v:Value}{l:Bs}(h:zA4 w e v l):zAf w v l:=OwnR.holds h
theorem zA4.keep {w w':World}{e:TypeId}{v:Value}{l:Bs}(h:zA4 w e v l)(b:∀k,v.ownBlock=some k→w'.heap[k]?=w.heap[k]?):zA4 w' e v l:=OwnR.keep h b
theorem zAf.kit {w:World}{v:Value}{l:Bs}(h:zAf w v l):Lib.HoldsBytes w v l:=by
 obtain⟨_,p,b,rfl,c,f⟩:=h;refine⟨p,b,rfl,fun e=>List.eq_nil_of_length_eq_zero (c e),fun a d i x j=>f a d i _ ?_⟩;simp[zAX,j]
theorem zAf.of_kit {w:World}{v:Value}{l:Bs}(h:Lib.HoldsBytes w v l):zAf w v l:=by
 obtain⟨p,b,rfl,d,j⟩:=h;refine⟨by simp[zAX],p,b,rfl,fun e=>by rw[d e];rfl,fun a f i u c=>?_⟩;simp only[zAX,List.getElem?_map,Option.map_eq_some_iff]at c;obtain⟨x,k,rfl⟩:=c;exact j a f i x k
/-! ### What a step may turn -/
structure Chg (S:Nat→Prop)(w w':World):Prop where
 os:w'.os=w.os
 tape:w'.tape=w.tape
 output:w'.output=w.output
 size:w.heap.size≤w'.heap.size
 block:∀k,k<w.heap.size→¬S k→w'.heap[k]?=w.heap[k]?
section
variable {S T:Nat→Prop} {w w' w'':World}
theorem Chg.refl (S:Nat→Prop)(w:World):Chg S w w:=⟨rfl,rfl,rfl,Nat.le_refl _,fun _ _ _=>rfl⟩
theorem Chg.mono (h:Chg S w w')(c:∀k,k<w.heap.size→S k→T k):Chg T w w':=⟨h.os,h.tape,h.output,h.size,fun k b hn=>h.block k b fun s=>hn (c k b s)⟩
theorem Chg.trans (h:Chg S w w')(k:Chg T w' w'')(c:∀i,i<w.heap.size→T i→S i):Chg S w w'' :=
 ⟨k.os.trans h.os,k.tape.trans h.tape,k.output.trans h.output,Nat.le_trans h.size k.size,fun i b hn=>(k.block i (Nat.lt_of_lt_of_le b h.size) fun t=>hn (c i b t)).trans (h.block i b hn)⟩
theorem Chg.of_below (h:Below w.heap.size w w'):Chg (fun _=>False) w w':=⟨h.os,h.tape,h.output,h.size,fun k b _=>h.block k b⟩
theorem Chg.below (h:Chg S w w'){B:Nat}(d:B≤w.heap.size)(c:∀k,k<B→¬S k):Below B w w':=⟨h.os,h.tape,h.output,h.size,fun k b=>h.block k (by omega) (c k b)⟩
theorem Chg.of_grown {b:Option Nat}(h:w.grownBy w' b):Chg (fun k=>some k=b) w w':=⟨h.os,h.tape,h.output,h.size,fun k c hn=>h.block k c hn⟩
theorem Chg.alloc (w:World)(o:Obj):Chg (fun _=>False) w (w.alloc o):=⟨rfl,rfl,rfl,by simp,fun k b _=>heap_alloc_old w o b⟩
theorem Chg.drew (w:World):Chg (fun _=>False) w w.drew:=⟨rfl,rfl,rfl,Nat.le_refl _,fun _ _ _=>rfl⟩
theorem Chg.setCell (w:World)(a:Addr)(u:Value):Chg (fun k=>k=a.block) w (w.setCell a u):=⟨rfl,rfl,rfl,by simp[World.setCell],fun k _ hn=>Below.heap_setCell _ _ _ _ hn⟩
theorem Chg.cell (h:Chg S w w'){a:Addr}{v:Value}(b:w.cell? a=some v)(hn:¬S a.block):w'.cell? a=some v :=
 (World.cell?_of_block (h.block a.block (World.block_lt_of_cell? w a b) hn)).trans b
end
theorem zCv (a:Addr)(i:Nat):(a.add i).block=a.block:=by unfold Addr.add;split<;>rfl
theorem zBH.chg {w w':World}{S:Nat→Prop}{size:Nat}{v:Value}{n:Nat}{xs:List Value}(h:zBH w size v n xs)(j:Chg S w w')(hS:∀k,v.ownBlock=some k→¬S k):zBH w' size v n xs:=by
 obtain⟨m,p,b,rfl,f,c⟩:=h;refine⟨m,p,b,rfl,f,fun a d i u o=>j.cell (c a d i u o) ?_⟩;rw[zCv];exact hS _ (by rw[d];rfl)
theorem zBH.chg2 {w w':World}{S:Nat→Prop}{size:Nat}{v:Value}{n:Nat}{xs:List Value}(h:zBH w size v n xs)(k:Chg S w w')(hS:∀a u,w.cell? a=some u→v.ownBlock=some a.block→¬S a.block):zBH w' size v n xs:=by
 obtain⟨m,p,c,rfl,j,b⟩:=h;refine⟨m,p,c,rfl,j,fun a d i u f=>k.cell (b a d i u f) (hS _ _ (b a d i u f) ?_)⟩;rw[zCv,d];rfl
theorem no_cell_map {w:World}{b:Nat}{es:Array MapEntry}{c:Nat}(h:w.heap[b]?=some (.map es c)){a:Addr}{u:Value}(d:w.cell? a=some u):a.block≠b:=fun e=>by
 simp[World.cell?,e,h]at d
theorem zAf.chg {w w':World}{S:Nat→Prop}{v:Value}{l:Bs}(h:zAf w v l)(b:Chg S w w')(hS:∀k,v.ownBlock=some k→¬S k):zAf w' v l:=zBH.chg h b hS
theorem zAf.below {w w':World}{v:Value}{l:Bs}(h:zAf w v l)(b:Below w.heap.size w w'):zAf w' v l:=h.chg (Chg.of_below b) fun _ _=>id
theorem zAf.slice {w:World}{v:Value}{l:Bs}(h:zAf w v l):∃p c,v=.slice p l.length c:=by
 obtain⟨_,p,c,e,_⟩:=h;exact⟨p,c,e⟩
theorem zA4.slice {w:World}{e:TypeId}{v:Value}{l:Bs}(h:zA4 w e v l):∃p c,v=.slice p l.length c:=h.has.slice
theorem zCK {w w':World}{b:Option Nat}(h:w.grownBy w' b){k:Nat}{o:Obj}(d:w.heap[k]?=some o)(c:b≠some k):w'.heap[k]?=some o :=
 (h.block k (Array.getElem?_eq_some_iff.1 d).1 fun e=>c e.symm).trans d
theorem zCW (p:Option Addr)(a b c d:Nat):(Value.slice p a b).ownBlock=(Value.slice p c d).ownBlock:=by cases p<;>rfl
theorem zAA {w:World}{b:Nat}{o:Obj}(h:w.heap[b]?=some o):b<w.heap.size:=(Array.getElem?_eq_some_iff.1 h).1
theorem zAB {w:World}{b:Nat}{c:Array Value}{e:TypeId}{fr:Nat×Nat}(h:w.heap[b]?=some (.cells c e fr)){i:Nat}{v:Value}(d:c[i]?=some v):w.cell? ⟨b,i,none⟩=some v:=by
 simp[World.cell?,h,d]
theorem cell0 {w:World}{b:Nat}{c:Value}{l:List Value}{e:TypeId}{fr:Nat×Nat}(h:w.heap[b]?=some (.cells (c::l).toArray e fr)):w.cell? ⟨b,0,none⟩=some c:=zAB h rfl
theorem zCF {w:World}{b:Nat}{d c:Value}{l:List Value}{e:TypeId}{fr:Nat×Nat}(h:w.heap[b]?=some (.cells (d::c::l).toArray e fr)):w.cell? ⟨b,1,none⟩=some c:=zAB h rfl
theorem zCG {w:World}{b:Nat}{d f c:Value}{l:List Value}{e:TypeId}{fr:Nat×Nat}(h:w.heap[b]?=some (.cells (d::f::c::l).toArray e fr)):w.cell? ⟨b,2,none⟩=some c:=zAB h rfl
theorem zCZ {w:World}{b:Nat}{d f i c:Value}{l:List Value}{e:TypeId}{fr:Nat×Nat}(h:w.heap[b]?=some (.cells (d::f::i::c::l).toArray e fr)):w.cell? ⟨b,3,none⟩=some c:=zAB h rfl
theorem zDL {w:World}{b:Nat}{d f i j c:Value}{l:List Value}{e:TypeId}{fr:Nat×Nat}(h:w.heap[b]?=some (.cells (d::f::i::j::c::l).toArray e fr)):w.cell? ⟨b,4,none⟩=some c:=zAB h rfl
theorem cell5 {w:World}{b:Nat}{d f i j k c:Value}{l:List Value}{e:TypeId}{fr:Nat×Nat}(h:w.heap[b]?=some (.cells (d::f::i::j::k::c::l).toArray e fr)):w.cell? ⟨b,5,none⟩=some c:=zAB h rfl
theorem zAE {w:World}{b:Nat}{c:Array Value}{e:TypeId}(h:w.heap[b]?=some (.cells c e (0,0)))(i:Nat):w.frozen? ⟨b,i,none⟩=false:=by
 simp[World.frozen?,h]
theorem zAH {w:World}{b:Nat}{c:Array Value}{e:TypeId}{fr:Nat×Nat}(h:w.heap[b]?=some (.cells c e fr))(i:Nat)(v:Value):(w.setCell ⟨b,i,none⟩ v).heap[b]?=some (.cells (c.setIfInBounds i v) e fr):=by
 simp[World.setCell,Array.getElem?_modify,h]
theorem zAK {w:World}{a:Addr}{k:Nat}(v:Value)(b:k≠a.block):(w.setCell a v).heap[k]?=w.heap[k]?:=Below.heap_setCell _ _ _ _ b
theorem zAF (w:World)(o:Obj):(w.alloc o).heap[w.heap.size]?=some o:=heap_alloc_new w o
theorem zAW {w:World}{k:Nat}{x:Obj}(o:Obj)(h:w.heap[k]?=some x):(w.alloc o).heap[k]?=some x:=(heap_alloc_old w o (zAA h)).trans h
open Go.Maps (Keyed)
section
variable {α:Type}
def rem (b:Lit→Bool)(L:List (Bs×α)):List (Bs×α):=L.filter fun p=>b (.string p.1)
theorem srt_rem {b:Lit→Bool}{L:List (Bs×α)}(h:Srt L):Srt (rem b L):=h.filter _
theorem rem_start (g:α→DataW Nat)(L:List (Bs×α)):rem (Maps.has (dm g L)) L=L:=by
 refine List.filter_eq_self.2 fun p c=>?_;rw[dm_has];cases b:get p.1 L with
 | none=>exact absurd rfl (zC8.1 b p c)
 | some a=>rfl
theorem rem_end {b:Lit→Bool}(h:∀kl,b kl=false)(L:List (Bs×α)):rem b L=[]:=by
 refine List.filter_eq_nil_iff.2 fun p _=>?_;rw[h];simp
theorem get_rem {b:Lit→Bool}{L:List (Bs×α)}(h:Srt L){n:Bs}{a:α}(c:get n L=some a)(d:b (.string n)=true):get n (rem b L)=some a :=
 zCJ (srt_rem h) (List.mem_filter.2 ⟨zBp c,d⟩)
theorem rem_step (b:Lit→Bool)(n:Bs)(L:List (Bs×α)):rem (fun z=>b z&& !z.sameKey (.string n)) L=del n (rem b L):=by
 simp only[rem,del,List.filter_filter];refine List.filter_congr fun p _=>?_;rw[sk];exact Bool.and_comm _ _
theorem rem_sum {f:α→Nat}{b:Lit→Bool}{L:List (Bs×α)}(h:Srt L){n:Bs}{a:α}(c:get n L=some a)(d:b (.string n)=true) :
  zA7 f (rem b L)=f a+zA7 f (rem (fun z=>b z&& !z.sameKey (.string n)) L):=by
 rw[rem_step];exact zC1 (srt_rem h) (get_rem h c d)
end
theorem zDi {P:Program}{k:TypeId}(f:P.underlying k=some .string){b:Value}{c:Lit}(h:keyOf P k b=some c):∃s:ByteArray,b=.string s∧c=.string s.data.toList∧s.size≤maxLen:=by
 cases b<;>simp[keyOf,f,mapKey]at h
 obtain⟨d,rfl⟩:=h;exact⟨_,rfl,rfl,d⟩
section
variable {α:Type} {P:Program} (w:World) {ops:Array Oper} {rest:List Oper} {o:Oper} {a:Act} {Q:Exit→Act→World→Prop}
theorem zD1 (R:o.guard=none)(J:Operand)(F:o.op=Op.next J false)(k:TypeId)(N:P.underlying k=some .string)(K:Keyed P k)
  (g:α→Nat) (L:List (Bs×α)) (b r n:Nat) (c:Lit→Bool) (cnt:Nat) (C:a.eval J=.pointer (some ⟨r,0,none⟩)) (h:w.ranges P k ptrR b r n (dm (fun x=>.held (g x)) L) c cnt)
  (j:(∀M,c M=false)→wpList P ops Q rest (a.put o.dst (.tuple #[.bool false])) w)
  (m:∀(s:ByteArray) (x:α) (w':World) (d:Nat),get s.data.toList L=some x→c (.string s.data.toList)=true→s.size≤maxLen →
   w'.ranges P k ptrR b r n (dm (fun x=>.held (g x)) L) (fun z=>c z&& !z.sameKey (.string s.data.toList)) d→d<cnt→w.grownBy w' (some r)→w'.heap.size=w.heap.size →
   (Instr.entry (.pointer (some ⟨r,0,none⟩))).run P w'=.ok (.tuple #[.string s,.pointer (some ⟨g x,0,none⟩)]) w' →
   wpList P ops Q rest (a.put o.dst (.tuple #[.bool true,.string s,.pointer (some ⟨g x,0,none⟩)])) w') :
  wpList P ops Q (o::rest) a w :=
 wpList_next_ranges w R J F k K ptrR (fun s:ByteArray=>.string s) (fun v:Value=>v) (fun U M f=>by obtain⟨s,rfl,_⟩:=zDi N f;exact⟨s,rfl⟩) (fun v _ _=>⟨v,rfl⟩)
  b r n _ c cnt C h (fun _ D=>j D) (fun s v M y w' d f D T t G E B H A=>by
   obtain⟨V,i,rfl,S⟩:=zDi N f;simp at i;subst i;have q:∀zd,((get s.data.toList L).map fun x=>(DataW.held (g x):DataW Nat)).getD zd=y.1:=fun zd=>by rw[←dm_atKey];exact t zd
   cases p:get s.data.toList L with
   | none =>
    rw[p]at q;have i:=q .nil;have O:=q (.held 0);rw[←O]at i;cases i
   | some x =>
    rw[p]at q;have i:=(q .nil).symm;have I:=ptrR_inv T i;subst I;exact m s x w' d p D S G E B H A)
theorem zDy {t k e:TypeId}{b n:Nat}(K:Keyed P k)(i:P.underlying k=some .string)(m:P.underlying t=some (.map k e))(o:(zeroValue e).run P w=.ok (.pointer none) w)(g:α→Nat)(L:List (Bs×α))
  (h:w.ownsMap P k ptrR b n (dm (fun x=>.held (g x)) L)) (s:ByteArray) (j:s.size≤maxLen) :
  (Instr.lookup t (.map (some b)) (.string s) false).run P w=.ok (match get s.data.toList L with|some x=>.pointer (some ⟨g x,0,none⟩)|none=>.pointer none) w:=by
 obtain⟨v,p,f,c⟩:=h.lookup K m o (z:=.pointer none) (zd:=.nil) (zp:=[]) rfl (WideMaps.keyOf_string_mk i j);rw[f];rw[dm_atKey]at c;cases d:get s.data.toList L with
 | none =>
  rw[d]at c;simp only[Option.map_none,Option.getD_none]at c;unfold ptrR at c
  split at c<;>simp at c
  rfl
 | some x =>
  rw[d]at c;simp only[Option.map_some,Option.getD_some]at c;rw[ptrR_inv c rfl]
theorem zBl {t k e:TypeId}{b n:Nat}(K:Keyed P k)(d:P.underlying k=some .string)(i:P.underlying t=some (.map k e))(j:(zeroValue e).run P w=.ok (.pointer none) w)(g:α→Nat){L:List (Bs×α)}
  (h:w.ownsMap P k ptrR b n (dm (fun x=>.held (g x)) L)) {s:ByteArray} (f:s.size≤maxLen) {x:α} (c:get s.data.toList L=some x) :
  (Instr.lookup t (.map (some b)) (.string s) false).run P w=.ok (.pointer (some ⟨g x,0,none⟩)) w:=by
 rw[zDy w K d i j g L h s f,c]
theorem run_look_any {t k e:TypeId}{b n:Nat}(K:Keyed P k)(c:P.underlying k=some .string)(f:P.underlying t=some (.map k e))(i:(zeroValue e).run P w=.ok (.pointer none) w)(g:α→Nat){L:List (Bs×α)}
  (h:w.ownsMap P k ptrR b n (dm (fun x=>.held (g x)) L)) {s:ByteArray} (d:s.size≤maxLen) :
  ∃fv,(Instr.lookup t (.map (some b)) (.string s) false).run P w=.ok (.pointer fv) w:=by
 rw[zDy w K c f i g L h s d];cases get s.data.toList L with
 | none=>exact⟨none,rfl⟩
 | some x=>exact⟨_,rfl⟩
theorem zBU {t k e:TypeId}{b n:Nat}(K:Keyed P k)(d:P.underlying k=some .string)(i:P.underlying t=some (.map k e))(j:(zeroValue e).run P w=.ok (.pointer none) w)(g:α→Nat){L:List (Bs×α)}
  (h:w.ownsMap P k ptrR b n (dm (fun x=>.held (g x)) L)) {s:ByteArray} (f:s.size≤maxLen) (c:get s.data.toList L=none) :
  (Instr.lookup t (.map (some b)) (.string s) false).run P w=.ok (.pointer none) w:=by
 rw[zDy w K d i j g L h s f,c]
end
/-! ### A region that draws its order,whose operations read or call what keeps a property of the world -/
theorem classOf (S:World→Prop){w:World}(h:S w):∃(ι:Type) (F:ι→World),Nonempty ι∧(∃n,w=F n)∧(∀n,S (F n))∧∀W,S W→∃n,W=F n :=
 ⟨{W:World // S W},Subtype.val,⟨⟨w,h⟩⟩,⟨⟨w,h⟩,rfl⟩,fun n=>n.2,fun W h=>⟨⟨W,h⟩,rfl⟩⟩
theorem zCB {P:Program}{ι:Type}(F:ι→World){i:Nat}{Q:Exit→Act→World→Prop}{a:Act}{w:World}{l:List Oper}(f:P.follows .mixedOrders=true)(d:Region.lexB .any l.toArray=true)(c:∃n,w.drew=F n)
  (h:wpQuiet P l.toArray (fun w'=>∃n,w'=F n) (fun b=>∀w',(∃n,w'=F n)→Q .normal b w') l a):(Code.region i l.toArray true).wp P Q a w :=
 wp_region_quiet (C:=fun w'=>∃n,w'=F n) f d c (by simpa using h)
end Go.Sat
namespace Go.Sat
open Go
section
variable {P:Program} {l:List Oper} {Q:Exit→Act→World→Prop} {md:Region.Mode} {S:World→Prop} {fuel:Nat} {listed:Array Bool} {a:Act} {w:World}
theorem zBv {i:Nat}{o:Oper}{r:List Oper}(h:l.drop i=o::r):l.toArray[i]?=some o:=by
 have:=List.getElem?_drop (xs:=l) (i:=i) (j:=0);rw[h]at this;simpa using this.symm
theorem zCy (S:World→Prop){c n:Nat}(b:P.follows .mixedOrders=true)(hn:l.length=n)(hS:S w.drew)(h:S w.drew→wpAnyH P .any l.toArray Q S n (Array.replicate n false) a w.drew):(Code.region c l.toArray true).wp P Q a w:=by
 subst hn;exact wp_region_held_drew b hS (by simpa using h)
theorem ord_skip (i:Nat){o:Oper}{r:List Oper}(d:l.drop i=o::r)(k:Region.noSelect l.toArray=true)(f:Region.free md l.toArray listed i=true)(j:(Region.ready md l.toArray listed).contains i=true)
  (b:∀c a w,Q (.panic c) (a.put o.dst undef) w→Q (.panic c) a w) (m:Region.wanted o (yielded l.toArray a.tmps)=false) (hS:S w)
  (h:wpAnyH P md l.toArray Q S fuel (listed.setIfInBounds i true) (a.put o.dst undef) w):wpAnyH P md l.toArray Q S (fuel+1) listed a w :=
 wpAnyH_take (zBv d) k f j b (.inr ⟨m,rfl⟩) hS h
theorem ord_take (i:Nat){o:Oper}{r:List Oper}{v:Value}(d:l.drop i=o::r)(k:Region.noSelect l.toArray=true)(f:Region.free md l.toArray listed i=true)(j:(Region.ready md l.toArray listed).contains i=true)
  (b:∀c a w,Q (.panic c) (a.put o.dst v) w→Q (.panic c) a w) (m:Region.wanted o (yielded l.toArray a.tmps)=true) (hS:S w) (n:∀w,S w→(execOp a.eval o).run P w=.ok (.value v) w)
  (h:wpAnyH P md l.toArray Q S fuel (listed.setIfInBounds i true) (a.put o.dst v) w):wpAnyH P md l.toArray Q S (fuel+1) listed a w :=
 wpAnyH_take (zBv d) k f j b (.inl ⟨m,n⟩) hS h
theorem ord_one (i:Nat){o:Oper}{r:List Oper}(c:l.drop i=o::r)(d:Region.ready md l.toArray listed=[i])(f:Region.wanted o (yielded l.toArray a.tmps)=true)
  (h:∀K:Act→World→Prop,Shut (∀a w,S w→(S w→wpAnyH P md l.toArray Q S fuel (listed.setIfInBounds i true) a w)→K a w)→Oper.wp P o a w K Q):wpAnyH P md l.toArray Q S (fuel+1) listed a w :=
 wpAnyH_ready d (by simp) (AllReadyH.cons (zBv c) (fun K b=>by rw[if_pos f];exact h K b) AllReadyH.nil)
theorem zEF {o:Oper}{K:Act→World→Prop}(s x:Operand)(t:TypeId)
  (f:o.op=.call {callee:=.builtin .append,args:=#[s,x],argTypes:=#[t,t] })
  (e:TypeId) (i:TypeInfo) (z:Value) (size bytes:Nat) (ht:P.underlying t=some (.slice e)) (hi:P.info? e=some i) (hz:i.zero=some z)
  (hsize:i.size=size) (hby:i.bytes=bytes) (hzs:z.cells.size=size) (hsz:0<size)
  (v:Value) (n:Nat) (xs:List Value) (hs:a.eval s=v) (hown:OwnR w e size v n xs)
  (xv:Value) (m:Nat) (news:List Value) (hxv:a.eval x=xv) (hx:zBH w size xv m news) (h1:∀u∈news,u.oneCell'=true)
  (h63:n+m≤maxLen) (hbytes:(n+m)*bytes≤140737488355328)
  (h:∀v' w',OwnR w' e size v' (n+m) (xs++news)→w.grownBy w' v.ownBlock→(v'.ownBlock=v.ownBlock∨∃g,v'.ownBlock=some g∧w.heap.size≤g)→K (a.put o.dst v') w'):Oper.wp P o a w K Q:=by
 obtain⟨v',w',j,b,c,d⟩:=run_app (P:=P) w t o.type e i z size bytes ht hi hz hsize hby hzs hsz v n xs hown xv m news hx h1 h63 hbytes;unfold Oper.wp execOp;simp only[f,resolve,invoke,builtin,Sem.run_bind,Sem.run_pure,Result.andThen_ok,List.map_toArray,List.map_cons,List.map_nil,hs,hxv,j];exact h v' w' b c d
end
def calm (xs:List Nat)(listed:Array Bool):Bool:=xs.all fun x=>!listed.getD x true
theorem calm_set {xs:List Nat}{listed:Array Bool}{i:Nat}(h:i∉xs):calm xs (listed.setIfInBounds i true)=calm xs listed:=by
 unfold calm;rw[Bool.eq_iff_iff,List.all_eq_true,List.all_eq_true];have e:∀x∈xs,(listed.setIfInBounds i true).getD x true=listed.getD x true:=fun x b=>getD_set_ne true fun e=>h (e▸b);exact⟨fun H x b=>by rw[←e x b];exact H x b,fun H x b=>by rw[e x b];exact H x b⟩
def waits (md:Region.Mode)(ops:Array Oper)(xs:List Nat)(i:Nat):Bool :=
 xs.all fun x=>match ops[x]? with
  | some o=>o.after.any fun e=>Region.binds md e&&e.on==i
  | none=>true
section
variable {P:Program} {ops:Array Oper} {Q:Exit→Act→World→Prop} {md:Region.Mode} {xs:List Nat} {S:World→Prop}
def zBi (P:Program)(md:Region.Mode)(ops:Array Oper)(Q:Exit→Act→World→Prop)(xs:List Nat)(S:World→Prop):Nat→Array Bool→Act→World→Prop
 | 0,listed,a,w=>Region.ready md ops listed=[]∧Q .normal a w
 | n+1,listed,a,w=>(Region.ready md ops listed=[]→Q .normal a w) ∧
   ∀i∈Region.ready md ops listed,wpOp P ops Q i (fun b v=>(calm xs (listed.setIfInBounds i true)=true→S v)∧zBi P md ops Q xs S n (listed.setIfInBounds i true) b v) a w
theorem any_of_G:∀(n:Nat) (listed:Array Bool) (a:Act) (w:World),zBi P md ops Q xs S n listed a w→wpAny P md ops Q n listed a w
 | 0,_,_,_,h=>h
 | n+1,_,_,_,h=>⟨h.1,fun i d=>wpOp_mono (fun b v c=>any_of_G n _ b v c.2) (h.2 i d)⟩
theorem G_first {i:Nat}{D:Oper}{v:Value}{T:World→Prop}(hi:ops[i]?=some D)(s:∀(j:Nat) (o:Oper) G b,ops[j]?=some o→o.op≠.select G b)
  (hQ:∀c a w,Q (.panic c) (a.put D.dst v) w→Q (.panic c) a w) (C:i∉xs) (hT:(∀w,T w)∨(waits md ops xs i=true∧∀w,S w→T w)) :
  ∀(n:Nat) (listed:Array Bool) (a:Act) (w:World),
   (∀j E,ops[j]?=some E→j≠i→listed.getD j true=false→(∀e∈E.after,Region.binds md e=true→e.on≠i)→D.apart ops E=true) →
   i∈Region.ready md ops listed→YieldsIf P ops T D v a→T w→(calm xs listed=true→S w)→((∀w,T w)∨calm xs listed=true) →
   zBi P md ops Q xs S n (listed.setIfInBounds i true) (a.put D.dst v) w→zBi P md ops Q xs S (n+1) listed a w:=by
 intro n
 induction n with
 | zero =>
  intro listed a w _ U Y B A _ H;refine⟨fun e=>absurd (e▸U) (by simp),fun j X=>?_⟩
  by_cases e:j=i
  ·subst e;exact Y.wpOp hi B ⟨fun M=>A (by rwa[calm_set C]at M),H⟩
  ·have I:=ready_mono X e;rw[H.1]at I;cases I
 | succ n ih =>
  intro listed a w f U Y B A K H;refine⟨fun e=>absurd (e▸U) (by simp),fun j X=>?_⟩
  by_cases e:j=i
  ·subst e;exact Y.wpOp hi B ⟨fun M=>A (by rwa[calm_set C]at M),H⟩
  ·have t:=H.2 j (ready_mono X e);obtain⟨q,E,p,J⟩:=mem_ready.1 X;have r:∀e∈E.after,Region.binds md e=true→e.on≠i:=fun e he L aa=>by
    have t:=J e he L;have I:=(mem_ready.1 U).1;rw[aa]at t;rcases Nat.lt_or_ge i listed.size with d|d
    ·simp[d]at I t;rw[I]at t;cases t
    ·simp[Array.getElem?_eq_none d]at t
   have O:((∀w,T w)∨(j∉xs∧∀w,S w→T w)):=by
    rcases hT with h|⟨h,y⟩
    ·exact .inl h
    ·refine .inr ⟨fun hx=>?_,y⟩;have F:=List.all_eq_true.1 h j hx;rw[p]at F;obtain⟨e,he,L⟩:=Array.any_eq_true'.1 F;rw[Bool.and_eq_true]at L;exact r e he L.1 (by simpa using L.2)
   have h2:=wpOp_putIf p (f j E p e q r) (fun G b=>s i D G b hi) (fun G b=>s j E G b p) hQ Y t;have m:∀k W,ops[k]?=some W→k≠i→(listed.setIfInBounds j true).getD k true=false →
     (∀e∈W.after,Region.binds md e=true→e.on≠i)→D.apart ops W=true:=fun k W hk ab V ac=>by
    refine f k W hk ab ?_ ac
    by_cases N:j=k
    ·subst N;exact q
    ·rw[getD_set_ne true N]at V;exact V
   have Z:calm xs ((listed.setIfInBounds i true).setIfInBounds j true)=calm xs (listed.setIfInBounds j true):=by
    rw[Array.setIfInBounds_comm _ _ (Ne.symm e),calm_set C]
   refine wpOp_mono (fun b u F=>?_) h2;have z:calm xs (listed.setIfInBounds j true)=true→S u:=fun M=>F.2.1 (by rw[Z];exact M);have R:(∀w,T w)∨calm xs (listed.setIfInBounds j true)=true:=by
    rcases O with h|⟨h,-⟩
    ·exact .inl h
    ·rcases K with d|d
     ·exact .inl d
     ·exact .inr (by rw[calm_set h];exact d)
   refine⟨z,ih (listed.setIfInBounds j true) b u m (ready_mono U (Ne.symm e)) F.1 ?_ z R ?_⟩
   ·rcases O with h|⟨-,y⟩
    ·exact h u
    ·rcases R with d|d
     ·exact d u
     ·exact y u (z d)
   ·rw[Array.setIfInBounds_comm _ _ e];exact F.2.2
variable {l:List Oper} {fuel:Nat} {listed:Array Bool} {a:Act} {w:World}
theorem g_start (xs:List Nat)(S:World→Prop){c n:Nat}(b:P.follows .mixedOrders=true)(hn:l.length=n)(hS:S w.drew)(h:S w.drew→zBi P .any l.toArray Q xs S n (Array.replicate n false) a w.drew):(Code.region c l.toArray true).wp P Q a w:=by
 subst hn;exact wp_region_any b (any_of_G _ _ _ _ (by have:=h hS;simpa using this))
theorem g_take (i:Nat){o:Oper}{r:List Oper}{v:Value}(d:l.drop i=o::r)(m:Region.noSelect l.toArray=true)(j:Region.free md l.toArray listed i=true)(k:(Region.ready md l.toArray listed).contains i=true)
  (b:(!xs.contains i&&waits md l.toArray xs i&&calm xs listed)=true)
  (f:∀c a w,Q (.panic c) (a.put o.dst v) w→Q (.panic c) a w) (n:Region.wanted o (yielded l.toArray a.tmps)=true) (hS:S w) (p:∀w,S w→(execOp a.eval o).run P w=.ok (.value v) w)
  (h:zBi P md l.toArray Q xs S fuel (listed.setIfInBounds i true) (a.put o.dst v) w):zBi P md l.toArray Q xs S (fuel+1) listed a w:=by
 simp only[Bool.and_eq_true,Bool.not_eq_true',List.contains_eq_mem,decide_eq_false_iff_not]at b;exact G_first (T:=S) (zBv d) (Region.noSelect_spec m) f b.1.1 (.inr ⟨b.1.2,fun _ h=>h⟩) fuel listed a w (Region.free_spec (zBv d) j) (by simpa using k) (.inl ⟨n,p⟩) hS (fun _=>hS) (.inr b.2) h
theorem g_pure0 (i:Nat){o:Oper}{r:List Oper}{v:Value}(b:l.drop i=o::r)(m:Region.noSelect l.toArray=true)(j:Region.free md l.toArray listed i=true)(k:(Region.ready md l.toArray listed).contains i=true)
  (d:(!xs.contains i)=true)
  (f:∀c a w,Q (.panic c) (a.put o.dst v) w→Q (.panic c) a w) (n:Region.wanted o (yielded l.toArray a.tmps)=true) (hS:S w) (p:∀w,(execOp a.eval o).run P w=.ok (.value v) w)
  (h:zBi P md l.toArray Q xs S fuel (listed.setIfInBounds i true) (a.put o.dst v) w):zBi P md l.toArray Q xs S (fuel+1) listed a w:=by
 simp only[Bool.not_eq_true',List.contains_eq_mem,decide_eq_false_iff_not]at d;exact G_first (T:=fun _=>True) (zBv b) (Region.noSelect_spec m) f d (.inl fun _=>trivial) fuel listed a w (Region.free_spec (zBv b) j) (by simpa using k) (.inl ⟨n,fun w _=>p w⟩) trivial (fun _=>hS) (.inl fun _=>trivial) h
theorem g_skip (i:Nat){o:Oper}{r:List Oper}(b:l.drop i=o::r)(m:Region.noSelect l.toArray=true)(j:Region.free md l.toArray listed i=true)(k:(Region.ready md l.toArray listed).contains i=true)
  (d:(!xs.contains i)=true)
  (f:∀c a w,Q (.panic c) (a.put o.dst undef) w→Q (.panic c) a w) (n:Region.wanted o (yielded l.toArray a.tmps)=false) (hS:S w)
  (h:zBi P md l.toArray Q xs S fuel (listed.setIfInBounds i true) (a.put o.dst undef) w):zBi P md l.toArray Q xs S (fuel+1) listed a w:=by
 simp only[Bool.not_eq_true',List.contains_eq_mem,decide_eq_false_iff_not]at d;exact G_first (T:=fun _=>True) (zBv b) (Region.noSelect_spec m) f d (.inl fun _=>trivial) fuel listed a w (Region.free_spec (zBv b) j) (by simpa using k) (.inr ⟨n,rfl⟩) trivial (fun _=>hS) (.inl fun _=>trivial) h
theorem g_one (i:Nat){o:Oper}{r:List Oper}(m:l.drop i=o::r)(d:Region.ready md l.toArray listed=[i])(n:Region.wanted o (yielded l.toArray a.tmps)=true)
  (h:∀K:Act→World→Prop,Shut (∀a w,S w→(S w→zBi P md l.toArray Q xs S fuel (listed.setIfInBounds i true) a w)→K a w)→Oper.wp P o a w K Q):zBi P md l.toArray Q xs S (fuel+1) listed a w:=by
 refine⟨fun e=>(by rw[d]at e;cases e),fun j c=>?_⟩;rw[d]at c;obtain rfl:j=i:=by simpa using c
 exact wpOp_step (zBv m) fun K f=>by
  rw[if_pos n];exact h K fun b v hS k=>f b v ⟨fun _=>hS,k hS⟩
theorem g_end (i:Nat){o:Oper}{r:List Oper}(n:l.drop i=o::r)(f:Region.ready md l.toArray listed=[i])(p:Region.wanted o (yielded l.toArray a.tmps)=true)(q:calm xs (listed.setIfInBounds i true)=false)
  (h:∀K:Act→World→Prop,Shut (∀a w,zBi P md l.toArray Q xs S fuel (listed.setIfInBounds i true) a w→K a w)→Oper.wp P o a w K Q):zBi P md l.toArray Q xs S (fuel+1) listed a w:=by
 refine⟨fun e=>(by rw[f]at e;cases e),fun j d=>?_⟩;rw[f]at d;obtain rfl:j=i:=by simpa using d
 exact wpOp_step (zBv n) fun K k=>by
  rw[if_pos p];exact h K fun b v m=>k b v ⟨fun c=>(by rw[q]at c;cases c),m⟩
theorem g_done (b:Region.ready md l.toArray listed=[])(h:Q .normal a w):∀fuel,zBi P md l.toArray Q xs S fuel listed a w
 | 0=>⟨b,h⟩
 | _+1=>⟨fun _=>h,by rw[b];simp⟩
end
section
variable {P:Program} {l:List Oper} {Q:Exit→Act→World→Prop} {md:Region.Mode} {S:World→Prop} {fuel:Nat} {listed:Array Bool} {a:Act} {w:World}
theorem otk (i:Nat){o:Oper}{r:List Oper}{v:Value}(d:l.drop i=o::r)(h:wpAnyH P md l.toArray Q S fuel (listed.setIfInBounds i true) (a.put o.dst v) w)
  (f:Region.noSelect l.toArray=true:=by kernel_rfl) (hf:Region.free md l.toArray listed i=true:=by kernel_rfl) (hr:(Region.ready md l.toArray listed).contains i=true:=by kernel_rfl)
  (hQ:∀c a w,Q (.panic c) (a.put o.dst v) w→Q (.panic c) a w:=by exact fun _ _ _ h=>h) (hw:Region.wanted o (yielded l.toArray a.tmps)=true:=by rfl) (hS:S w:=by assumption)
  (hy:∀w,S w→(execOp a.eval o).run P w=.ok (.value v) w:=by(intro w b;(try dsimp only at b);go_simp;try with_reducible rfl)):wpAnyH P md l.toArray Q S (fuel+1) listed a w :=
 ord_take i d f hf hr hQ hw hS hy h
theorem otc (i:Nat){o:Oper}{r:List Oper}{v:Value}(b:l.drop i=o::r)(f:∀w,S w→(execOp a.eval o).run P w=.ok (.value v) w)(h:wpAnyH P md l.toArray Q S fuel (listed.setIfInBounds i true) (a.put o.dst v) w)
  (d:Region.noSelect l.toArray=true:=by kernel_rfl) (hf:Region.free md l.toArray listed i=true:=by kernel_rfl) (hr:(Region.ready md l.toArray listed).contains i=true:=by kernel_rfl)
  (hQ:∀c a w,Q (.panic c) (a.put o.dst v) w→Q (.panic c) a w:=by exact fun _ _ _ h=>h) (hw:Region.wanted o (yielded l.toArray a.tmps)=true:=by rfl) (hS:S w:=by assumption):wpAnyH P md l.toArray Q S (fuel+1) listed a w :=
 ord_take i b d hf hr hQ hw hS f h
theorem osk (i:Nat){o:Oper}{r:List Oper}(b:l.drop i=o::r)(h:wpAnyH P md l.toArray Q S fuel (listed.setIfInBounds i true) (a.put o.dst undef) w)
  (d:Region.noSelect l.toArray=true:=by kernel_rfl) (hf:Region.free md l.toArray listed i=true:=by kernel_rfl) (hr:(Region.ready md l.toArray listed).contains i=true:=by kernel_rfl)
  (hQ:∀c a w,Q (.panic c) (a.put o.dst undef) w→Q (.panic c) a w:=by exact fun _ _ _ h=>h) (hw:Region.wanted o (yielded l.toArray a.tmps)=false:=by rfl) (hS:S w:=by assumption):wpAnyH P md l.toArray Q S (fuel+1) listed a w :=
 ord_skip i b d hf hr hQ hw hS h
theorem uA {α:Type}{l:List α}{i:Nat}{a:α}:l.toArray.setIfInBounds i a=(l.set i a).toArray:=List.setIfInBounds_toArray _ _ _
theorem uB {α:Type}{x:α}{xs:List α}{a:α}:(x::xs).set 0 a=a::xs:=List.set_cons_zero
theorem uC {α:Type}{x:α}{xs:List α}{i:Nat}{a:α}:(x::xs).set (i+1) a=x::xs.set i a:=List.set_cons_succ
theorem uZ:(∀(a:Act) (v:Value),a.put none v=a)∧(∀(a:Act) (d:Nat) (v:Value),a.put (some d) v={a with tmps:=a.tmps.setIfInBounds d v})∧(∀{α:Type} (l:List α) (i:Nat) (a:α),l.toArray.setIfInBounds i a=(l.set i a).toArray)∧(∀{α:Type} (x:α) (xs:List α) (a:α),(x::xs).set 0 a=a::xs)∧∀{α:Type} (x:α) (xs:List α) (i:Nat) (a:α),(x::xs).set (i+1) a=x::xs.set i a:=⟨fun _ _=>rfl,fun _ _ _=>rfl,fun _ _ _=>uA,fun _ _ _=>uB,fun _ _ _ _=>uC⟩
theorem oon (i:Nat){o:Oper}{r:List Oper}(b:l.drop i=o::r)(h:∀K:Act→World→Prop,Shut (∀a w,S w→(S w→wpAnyH P md l.toArray Q S fuel (listed.setIfInBounds i true) a w)→K a w)→Oper.wp P o a w K Q)
  (c:Region.ready md l.toArray listed=[i]:=by kernel_rfl) (hw:Region.wanted o (yielded l.toArray a.tmps)=true:=by rfl):wpAnyH P md l.toArray Q S (fuel+1) listed a w:=ord_one i b c hw h
theorem ost (S:World→Prop){c:Nat}(n:Nat)(hS:S w.drew)(h:S w.drew→wpAnyH P .any l.toArray Q S n (Array.replicate n false) a w.drew)(b:P.follows .mixedOrders=true:=by kernel_rfl)(hn:l.length=n:=by rfl):(Code.region c l.toArray true).wp P Q a w:=zCy S b hn hS h
theorem odn {ops:Array Oper}(h:Q .normal a w)(b:Region.ready md ops listed=[]:=by kernel_rfl):wpAnyH P md ops Q S fuel listed a w:=wpAnyH_done b h _
theorem gtk {xs:List Nat}(i:Nat){o:Oper}{r:List Oper}{v:Value}(d:l.drop i=o::r)(h:zBi P md l.toArray Q xs S fuel (listed.setIfInBounds i true) (a.put o.dst v) w)
  (f:Region.noSelect l.toArray=true:=by kernel_rfl) (hf:Region.free md l.toArray listed i=true:=by kernel_rfl) (hr:(Region.ready md l.toArray listed).contains i=true:=by kernel_rfl)
  (hx:(!xs.contains i&&waits md l.toArray xs i&&calm xs listed)=true:=by kernel_rfl) (hQ:∀c a w,Q (.panic c) (a.put o.dst v) w→Q (.panic c) a w:=by exact fun _ _ _ h=>h) (hw:Region.wanted o (yielded l.toArray a.tmps)=true:=by rfl) (hS:S w:=by assumption)
  (hy:∀w,S w→(execOp a.eval o).run P w=.ok (.value v) w:=by(intro w b;(try dsimp only at b);go_simp;try with_reducible rfl)):zBi P md l.toArray Q xs S (fuel+1) listed a w :=
 g_take i d f hf hr hx hQ hw hS hy h
theorem gpu {xs:List Nat}(i:Nat){o:Oper}{r:List Oper}{v:Value}(b:l.drop i=o::r)(h:zBi P md l.toArray Q xs S fuel (listed.setIfInBounds i true) (a.put o.dst v) w)
  (d:Region.noSelect l.toArray=true:=by kernel_rfl) (hf:Region.free md l.toArray listed i=true:=by kernel_rfl) (hr:(Region.ready md l.toArray listed).contains i=true:=by kernel_rfl)
  (hx:(!xs.contains i)=true:=by kernel_rfl) (hQ:∀c a w,Q (.panic c) (a.put o.dst v) w→Q (.panic c) a w:=by exact fun _ _ _ h=>h) (hw:Region.wanted o (yielded l.toArray a.tmps)=true:=by rfl) (hS:S w:=by assumption)
  (hy:∀w,(execOp a.eval o).run P w=.ok (.value v) w:=by(intro w;go_simp;try with_reducible rfl)):zBi P md l.toArray Q xs S (fuel+1) listed a w :=
 g_pure0 i b d hf hr hx hQ hw hS hy h
def wpPlan (P:Program)(md:Region.Mode)(l:List Oper)(Q:Exit→Act→World→Prop)(S:World→Prop)(fuel:Nat)(listed:Array Bool)(a:Act)(w:World)(_:List Nat):Prop:=wpAnyH P md l.toArray Q S fuel listed a w
theorem Pl (is:List Nat)(h:wpPlan P md l Q S fuel listed a w is):wpAnyH P md l.toArray Q S fuel listed a w:=h
theorem Pn (h:wpAnyH P md l.toArray Q S fuel listed a w):wpPlan P md l Q S fuel listed a w []:=h
theorem Pc {i:Nat}{is:List Nat}{o:Oper}{r:List Oper}{v:Value}(d:l.drop i=o::r)(h:wpPlan P md l Q S fuel (listed.setIfInBounds i true) (a.put o.dst v) w is)
  (f:Region.noSelect l.toArray=true:=by kernel_rfl) (hf:Region.free md l.toArray listed i=true:=by kernel_rfl) (hr:(Region.ready md l.toArray listed).contains i=true:=by kernel_rfl)
  (hQ:∀c a w,Q (.panic c) (a.put o.dst v) w→Q (.panic c) a w:=by exact fun _ _ _ h=>h) (hw:Region.wanted o (yielded l.toArray a.tmps)=true:=by rfl) (hS:S w:=by first|assumption|trivial)
  (hy:∀w,S w→(execOp a.eval o).run P w=.ok (.value v) w:=by(intro w b;(try dsimp only at b);go_simp;first|done|with_reducible rfl|(rw[if_neg (by omega)];try with_reducible rfl))):wpPlan P md l Q S (fuel+1) listed a w (i::is) :=
 ord_take i d f hf hr hQ hw hS hy h
def zDH (P:Program)(md:Region.Mode)(l:List Oper)(Q:Exit→Act→World→Prop)(xs:List Nat)(S:World→Prop)(fuel:Nat)(listed:Array Bool)(a:Act)(w:World)(_:List Nat):Prop:=zBi P md l.toArray Q xs S fuel listed a w
theorem Gl {xs:List Nat}(is:List Nat)(h:zDH P md l Q xs S fuel listed a w is):zBi P md l.toArray Q xs S fuel listed a w:=h
theorem Gn {xs:List Nat}(h:zBi P md l.toArray Q xs S fuel listed a w):zDH P md l Q xs S fuel listed a w []:=h
theorem Gc {xs:List Nat}{i:Nat}{is:List Nat}{o:Oper}{r:List Oper}{v:Value}(d:l.drop i=o::r)(h:zDH P md l Q xs S fuel (listed.setIfInBounds i true) (a.put o.dst v) w is)
  (f:Region.noSelect l.toArray=true:=by kernel_rfl) (hf:Region.free md l.toArray listed i=true:=by kernel_rfl) (hr:(Region.ready md l.toArray listed).contains i=true:=by kernel_rfl)
  (hx:(!xs.contains i&&waits md l.toArray xs i&&calm xs listed)=true:=by kernel_rfl) (hQ:∀c a w,Q (.panic c) (a.put o.dst v) w→Q (.panic c) a w:=by exact fun _ _ _ h=>h) (hw:Region.wanted o (yielded l.toArray a.tmps)=true:=by rfl) (hS:S w:=by assumption)
  (hy:∀w,S w→(execOp a.eval o).run P w=.ok (.value v) w:=by(intro w b;(try dsimp only at b);go_simp;first|done|with_reducible rfl|(rw[if_neg (by omega)];try with_reducible rfl))):zDH P md l Q xs S (fuel+1) listed a w (i::is) :=
 g_take i d f hf hr hx hQ hw hS hy h
theorem Gp {xs:List Nat}{i:Nat}{is:List Nat}{o:Oper}{r:List Oper}{v:Value}(b:l.drop i=o::r)(h:zDH P md l Q xs S fuel (listed.setIfInBounds i true) (a.put o.dst v) w is)
  (d:Region.noSelect l.toArray=true:=by kernel_rfl) (hf:Region.free md l.toArray listed i=true:=by kernel_rfl) (hr:(Region.ready md l.toArray listed).contains i=true:=by kernel_rfl)
  (hx:(!xs.contains i)=true:=by kernel_rfl) (hQ:∀c a w,Q (.panic c) (a.put o.dst v) w→Q (.panic c) a w:=by exact fun _ _ _ h=>h) (hw:Region.wanted o (yielded l.toArray a.tmps)=true:=by rfl) (hS:S w:=by assumption)
  (hy:∀w,(execOp a.eval o).run P w=.ok (.value v) w:=by(intro w;go_simp;try with_reducible rfl)):zDH P md l Q xs S (fuel+1) listed a w (i::is) :=
 g_pure0 i b d hf hr hx hQ hw hS hy h
theorem Pd {i:Nat}{is:List Nat}{o:Oper}{r:List Oper}{v:Value}(b:l.drop i=o::r)(f:∀w,S w→(execOp a.eval o).run P w=.ok (.value v) w)(h:wpPlan P md l Q S fuel (listed.setIfInBounds i true) (a.put o.dst v) w is)
  (d:Region.noSelect l.toArray=true:=by kernel_rfl) (hf:Region.free md l.toArray listed i=true:=by kernel_rfl) (hr:(Region.ready md l.toArray listed).contains i=true:=by kernel_rfl)
  (hQ:∀c a w,Q (.panic c) (a.put o.dst v) w→Q (.panic c) a w:=by exact fun _ _ _ h=>h) (hw:Region.wanted o (yielded l.toArray a.tmps)=true:=by rfl) (hS:S w:=by first|assumption|trivial):wpPlan P md l Q S (fuel+1) listed a w (i::is) :=
 ord_take i b d hf hr hQ hw hS f h
theorem Ps {i:Nat}{is:List Nat}{o:Oper}{r:List Oper}(b:l.drop i=o::r)(h:wpPlan P md l Q S fuel (listed.setIfInBounds i true) (a.put o.dst undef) w is)
  (d:Region.noSelect l.toArray=true:=by kernel_rfl) (hf:Region.free md l.toArray listed i=true:=by kernel_rfl) (hr:(Region.ready md l.toArray listed).contains i=true:=by kernel_rfl)
  (hQ:∀c a w,Q (.panic c) (a.put o.dst undef) w→Q (.panic c) a w:=by exact fun _ _ _ h=>h) (hw:Region.wanted o (yielded l.toArray a.tmps)=false:=by rfl) (hS:S w:=by first|assumption|trivial):wpPlan P md l Q S (fuel+1) listed a w (i::is) :=
 ord_skip i b d hf hr hQ hw hS h
theorem Gd {xs:List Nat}{i:Nat}{is:List Nat}{o:Oper}{r:List Oper}{v:Value}(b:l.drop i=o::r)(f:∀w,S w→(execOp a.eval o).run P w=.ok (.value v) w)(h:zDH P md l Q xs S fuel (listed.setIfInBounds i true) (a.put o.dst v) w is)
  (d:Region.noSelect l.toArray=true:=by kernel_rfl) (hf:Region.free md l.toArray listed i=true:=by kernel_rfl) (hr:(Region.ready md l.toArray listed).contains i=true:=by kernel_rfl)
  (hx:(!xs.contains i&&waits md l.toArray xs i&&calm xs listed)=true:=by kernel_rfl) (hQ:∀c a w,Q (.panic c) (a.put o.dst v) w→Q (.panic c) a w:=by exact fun _ _ _ h=>h) (hw:Region.wanted o (yielded l.toArray a.tmps)=true:=by rfl) (hS:S w:=by assumption):zDH P md l Q xs S (fuel+1) listed a w (i::is) :=
 g_take i b d hf hr hx hQ hw hS f h
theorem Gs {xs:List Nat}{i:Nat}{is:List Nat}{o:Oper}{r:List Oper}(b:l.drop i=o::r)(h:zDH P md l Q xs S fuel (listed.setIfInBounds i true) (a.put o.dst undef) w is)
  (d:Region.noSelect l.toArray=true:=by kernel_rfl) (hf:Region.free md l.toArray listed i=true:=by kernel_rfl) (hr:(Region.ready md l.toArray listed).contains i=true:=by kernel_rfl)
  (hx:(!xs.contains i)=true:=by kernel_rfl) (hQ:∀c a w,Q (.panic c) (a.put o.dst undef) w→Q (.panic c) a w:=by exact fun _ _ _ h=>h) (hw:Region.wanted o (yielded l.toArray a.tmps)=false:=by rfl) (hS:S w:=by assumption):zDH P md l Q xs S (fuel+1) listed a w (i::is) :=
 g_skip i b d hf hr hx hQ hw hS h
end
end Go.Sat
namespace Go.Proofs.YtmcanphlgkolcaaGreatDoor
open Go.RowKit Go.Sat
def zBM (w:World)(x:Value)(ls:List Bs):Prop :=
 ∃p c,x=.slice p ls.length c∧ls.length≤c∧(ls≠[]→∃b o vs,p=some ⟨b,o,none⟩∧Lib.PartsAt w ⟨b,o,none⟩ vs ls)
theorem zEd {B:Nat}{w:World}{v:Value}{l:Bs}(h:Lib.FreshBytes B w v l):zAf w v l:=by
 obtain⟨g,c,zs,rfl,_,s,_,t,q,n,o,_⟩:=h;refine zAf.of_kit ⟨some ⟨g,0,none⟩,c,rfl,fun e=>(by cases e),fun a m i x f=>?_⟩;cases m;have p:i<l.length:=(List.getElem?_eq_some_iff.1 f).1;rw[add_zero,o i (by omega)];have b:i<zs.length:=by omega
 have j:(zs.take l.length)[i]?=some zs[i]:=by rw[List.getElem?_take,if_pos p,List.getElem?_eq_getElem b]
 have d:(Lib.bytesOf (zs.take l.length))[i]?=some x:=by rw[n];exact f
 simp only[Lib.bytesOf,List.getElem?_map,j,Option.map_some,Option.some.injEq]at d;have r:=q zs[i] (List.getElem_mem b);have k:zs.getD i 0=zs[i]:=by simp[List.getD,List.getElem?_eq_getElem b]
 rw[k,←d]
 congr 2
 simp;omega
theorem join_flat (ls:List Bs):Lib.join ls []=ls.flatten:=by
 cases ls with
 | nil=>rfl
 | cons x r =>
  rw[Lib.join_cons];simp[Lib.joinTail]
theorem flat_len (ls:List Bs):ls.flatten.length=Lib.lens ls:=by simp[Lib.lens,List.length_flatten]
theorem bjoin {w:World}{x:Value}{ls:List Bs}(h:zBM w x ls)(hn:ls.length≤140737488355328)(E:ls.flatten.length≤140737488355328) :
  Calls prog 193 #[x,.slice none 0 0] w fun e w'=>∃v,e=.returned v∧zAf w' v ls.flatten∧Below w.heap.size w w':=by
 obtain⟨p,c,rfl,G,F⟩:=h;cases ls with
 | nil =>
  refine(Tryz.bytes_Join_none p c (.slice none 0 0) w).mono ?_;rintro e w' ⟨rfl,rfl⟩;refine⟨_,rfl,?_,(Below.refl _ _).alloc (Nat.le_refl _) _⟩;exact zAf.of_kit ⟨_,_,rfl,fun e=>(by cases e),fun a k i x H=>by simp at H⟩
 | cons l0 r =>
  obtain⟨b,o,vs,rfl,D⟩:=F (by simp);cases r with
  | nil =>
   obtain⟨n,q,I,B,f,z,t⟩:=D.get 0 (by simp);simp at B;subst B;have d:w.cell? ⟨b,o,none⟩=some (.slice n l0.length q):=by simpa[Addr.add]using f
   by_cases C:l0.length=0
   ·have y:l0=[]:=List.eq_nil_of_length_eq_zero C;subst y;refine(Tryz.bytes_Join_one_empty b o c n q (.slice none 0 0) w d).mono ?_;rintro e w' ⟨rfl,rfl⟩;exact⟨_,rfl,zAf.of_kit ⟨none,0,rfl,fun _=>rfl,fun a k=>(by cases k)⟩,Below.refl _ _⟩
   ·obtain⟨A,rfl⟩:∃a,n=some a:=by
     cases n with
     | none=>exact absurd (by rw[z rfl];rfl) C
     | some a=>exact⟨a,rfl⟩
    refine(Tryz.bytes_Join_one b o c A q l0 (.slice none 0 0) w d (t A rfl) (by omega) (by simpa using E)).mono ?_;rintro e w' ⟨v,rfl,m,s⟩;exact⟨v,rfl,by simpa using zEd m,s⟩
  | cons l1 r =>
   have j:Lib.HoldsBytes w (.slice none 0 0) []:=⟨none,0,rfl,fun _=>rfl,fun a k=>(by cases k)⟩;refine(Tryz.bytes_Join_many b o _ c vs (l0::l1::r) (.slice none 0 0) [] w rfl (by simp) D G j hn (by rw[←flat_len];simpa using E)).mono ?_;rintro e w' ⟨v,rfl,m,s⟩;rw[join_flat]at m;exact⟨v,rfl,zEd m,s⟩
theorem zCL {w:World}{x:Value}{ls:List Bs}(h:zBM w x ls)(hn:ls.length≤140737488355328)(j:ls.flatten.length≤140737488355328) :
  Calls prog 148 #[x] w fun e w'=>∃v,e=.returned v∧zAf w' v ls.flatten∧Below w.heap.size w w':=by
 have b:=bjoin h hn j;obtain⟨p,c,rfl,m,f⟩:=h;have d:=zh b;clear b f
 go_enter func148,ntmps148
 go_wp2_with fail;refine d.o.mono ?_;rintro e w' ⟨v,rfl,k,i⟩;go_wp2_with fail;go_ret;exact⟨v,rfl,k,i⟩
theorem zAx {w:World}{x:Value}{l:Bs}(h:zAf w x l)(q:l.length≤140737488355328) :
  Calls prog 85 #[x] w fun e w'=>∃v,e=.returned v∧zA4 w' 5 v l∧(∀k,v.ownBlock=some k→w.heap.size≤k)∧Below w.heap.size w w':=by
 obtain⟨p,c,rfl,m,o⟩:=h.kit;cases p with
 | none =>
  have:=m rfl;subst this;refine(Tryz.bytes_Clone_nil _ c w).mono ?_;rintro e w' ⟨rfl,rfl⟩;exact⟨_,rfl,OwnR.nil _ _ _,fun k d=>(by cases d),Below.refl _ _⟩
 | some a =>
  refine(Tryz.bytes_Clone_at a l.length c (Lib.numsL l) w (Lib.numsL_length l) q fun i f=>?_).mono ?_
  ·rw[o a rfl i l[i] (List.getElem?_eq_getElem f)];simp[Lib.numsL,List.getD,List.getElem?_map,List.getElem?_eq_getElem f]
  ·rintro e w' ⟨v,rfl,b,_,n⟩;have j:(Lib.numsL l).map (Value.int .u8)=zAX l:=by simp[Lib.numsL,zAX]
   rw[j]at b;exact⟨v,rfl,OwnR.of_kit b,fun k d=>OwnR.block_ge b d,n⟩
end Go.Proofs.YtmcanphlgkolcaaGreatDoor
namespace Go.Sat
open Go.RowKit
open Go.Maps (Keyed)
class OrdK (κ:Type) where
 dec:DecidableEq κ
 lt:κ→κ→Bool
 irr:∀a,lt a a=false
 tr:∀{a b c},lt a b=true→lt b c=true→lt a c=true
 tot:∀{a b},a≠b→lt a b=true∨lt b a=true
instance decK {κ:Type} [OrdK κ]:DecidableEq κ:=OrdK.dec
instance ordBs:OrdK Bs:=⟨inferInstance,bytesBefore,zDK,zDU,fun h=>zEX _ _ h⟩
instance ordInt:OrdK Int:=⟨inferInstance,fun a b=>decide (a<b),fun a=>by simp,fun h k=>by simp at h k ⊢;omega,fun h=>by simp;omega⟩
instance ordII:OrdK (Int×Int):=⟨inferInstance,fun a b=>decide (a.1<b.1∨(a.1=b.1∧a.2<b.2)),fun a=>by simp,fun h k=>by simp at h k ⊢;omega,fun {a b} h=>by
 have:¬(a.1=b.1∧a.2=b.2):=fun e=>h (Prod.ext e.1 e.2);simp;omega⟩
section
variable {κ α β:Type} [OrdK κ]
def zBS (n:κ)(L:List (κ×α)):Option α:=(L.find? (fun p=>p.1==n)).map (·.2)
def kdel (n:κ)(L:List (κ×α)):List (κ×α):=L.filter (fun p=>!(p.1==n))
def kins (x:κ×α):List (κ×α)→List (κ×α)
 | []=>[x]
 | y::r=>if OrdK.lt x.1 y.1 then x::y::r else y::kins x r
def zDv (n:κ)(a:α)(L:List (κ×α)):List (κ×α):=kins (n,a) (kdel n L)
def KSrt (L:List (κ×α)):Prop:=L.Pairwise (fun p q=>OrdK.lt p.1 q.1=true)
theorem k_bb_irrefl (a:κ):OrdK.lt a a=false:=OrdK.irr a
theorem k_bb_trans {a b c:κ}(h:OrdK.lt a b=true)(k:OrdK.lt b c=true):OrdK.lt a c=true:=OrdK.tr h k
theorem k_bb_total (a b:κ)(h:a≠b):OrdK.lt a b=true∨OrdK.lt b a=true:=OrdK.tot h
theorem k_bb_ne {a b:κ}(h:OrdK.lt a b=true):a≠b:=by
 rintro rfl;rw[k_bb_irrefl]at h;cases h
theorem k_srt_del {n:κ}{L:List (κ×α)}(h:KSrt L):KSrt (kdel n L):=h.filter _
theorem k_mem_ins {x y:κ×α}:∀{L:List (κ×α)},y∈kins x L↔y=x∨y∈L
 | []=>by simp[kins]
 | z::r=>by
  unfold kins
  split
  ·simp
  ·simp[k_mem_ins (L:=r)]
   constructor
   ·rintro(h|h|h)<;>simp[h]
   ·rintro(h|h|h)<;>simp[h]
theorem k_ins_perm (x:κ×α):∀(L:List (κ×α)),(kins x L).Perm (x::L)
 | []=>List.Perm.refl _
 | z::r=>by
  unfold kins
  split
  ·exact List.Perm.refl _
  ·exact((k_ins_perm x r).cons z).trans (List.Perm.swap x z r)
theorem k_srt_ins {x:κ×α}:∀{L:List (κ×α)},KSrt L→(∀p∈L,p.1≠x.1)→KSrt (kins x L)
 | [],_,_=>by simp[kins,KSrt]
 | y::r,h,hne=>by
  obtain⟨f,i⟩:=List.pairwise_cons.1 h;unfold kins
  split
  ·rename_i hb
   refine List.pairwise_cons.2 ⟨fun q b=>?_,h⟩;rcases List.mem_cons.1 b with rfl|b
   ·exact hb
   ·exact k_bb_trans hb (f q b)
  ·rename_i hb
   have d:OrdK.lt y.1 x.1=true:=by
    rcases k_bb_total x.1 y.1 (hne y (by simp)).symm with c|c
    ·exact absurd c hb
    ·exact c
   refine List.pairwise_cons.2 ⟨fun q b=>?_,k_srt_ins i (fun p j=>hne p (by simp[j]))⟩;rcases k_mem_ins.1 b with rfl|b
   ·exact d
   ·exact f q b
theorem zDu {n:κ}{p:κ×α}{L:List (κ×α)}:p∈kdel n L↔p∈L∧p.1≠n:=by
 simp[kdel]
theorem zEg {n:κ}{a:α}{L:List (κ×α)}(h:KSrt L):KSrt (zDv n a L) :=
 k_srt_ins (k_srt_del h) fun _ b=>(zDu.1 b).2
theorem zCb {n:κ}{a:α}{p:κ×α}{L:List (κ×α)}:p∈zDv n a L↔p=(n,a)∨(p∈L∧p.1≠n):=by
 unfold zDv;rw[k_mem_ins,zDu]
theorem k_put_perm (n:κ)(a:α)(L:List (κ×α)):(zDv n a L).Perm ((n,a)::kdel n L):=k_ins_perm _ _
theorem zCq {n:κ}{L:List (κ×α)}:zBS n L=none↔∀p∈L,p.1≠n:=by
 simp[zBS,List.find?_eq_none]
theorem zA0 {n:κ}{a:α}{L:List (κ×α)}(h:zBS n L=some a):(n,a)∈L:=by
 simp only[zBS,Option.map_eq_some_iff]at h;obtain⟨p,c,rfl⟩:=h;have d:=List.mem_of_find?_eq_some c;have b:=List.find?_some c;simp at b;rw[←b];exact d
theorem k_key_uniq {L:List (κ×α)}(h:KSrt L){p q:κ×α}(j:p∈L)(k:q∈L)(e:p.1=q.1):p=q:=by
 induction L with
 | nil=>simp at j
 | cons y r ih =>
  obtain⟨i,m⟩:=List.pairwise_cons.1 h;rcases List.mem_cons.1 j with f|c
  ·rcases List.mem_cons.1 k with d|b
   ·rw[f,d]
   ·exact absurd (f▸e) (k_bb_ne (i q b))
  ·rcases List.mem_cons.1 k with d|b
   ·exact absurd (d▸e).symm (k_bb_ne (i p c))
   ·exact ih m c b
theorem zDA {L:List (κ×α)}(h:KSrt L){n:κ}{a:α}(d:(n,a)∈L):zBS n L=some a:=by
 cases c:zBS n L with
 | none=>exact absurd rfl (zCq.1 c _ d)
 | some b =>
  have:=k_key_uniq h d (zA0 c) rfl;simp at this;rw[this]
theorem k_get_iff {L:List (κ×α)}(h:KSrt L){n:κ}{a:α}:zBS n L=some a↔(n,a)∈L:=⟨zA0,zDA h⟩
theorem zEB {L:List (κ×α)}(h:KSrt L)(n:κ)(a:α):zBS n (zDv n a L)=some a :=
 zDA (zEg h) (zCb.2 (.inl rfl))
theorem k_get_put_other {L:List (κ×α)}(h:KSrt L){n m:κ}(a:α)(c:m≠n):zBS m (zDv n a L)=zBS m L:=by
 cases d:zBS m L with
 | none =>
  rw[zCq]at d ⊢;intro p f;rcases zCb.1 f with rfl|⟨f,_⟩
  ·exact c.symm
  ·exact d p f
 | some b=>exact zDA (zEg h) (zCb.2 (.inr ⟨zA0 d,c⟩))
def kmp (g:α→β)(L:List (κ×α)):List (κ×β):=L.map fun p=>(p.1,g p.2)
theorem k_mp_ins (g:α→β)(x:κ×α):∀L:List (κ×α),kmp g (kins x L)=kins (x.1,g x.2) (kmp g L)
 | []=>rfl
 | y::r=>by
  simp only[kins,kmp,List.map_cons]
  split
  ·simp
  ·simp only[List.map_cons];rw[show List.map (fun p:κ×α=>(p.1,g p.2)) (kins x r)=kmp g (kins x r)from rfl,k_mp_ins g x r];rfl
theorem k_mp_del (g:α→β)(n:κ)(L:List (κ×α)):kmp g (kdel n L)=kdel n (kmp g L):=by
 simp only[kmp,kdel,List.filter_map];rfl
theorem k_mp_put (g:α→β)(n:κ)(a:α)(L:List (κ×α)):kmp g (zDv n a L)=zDv n (g a) (kmp g L):=by
 simp only[zDv,k_mp_ins,k_mp_del]
theorem k_mp_get (g:α→β)(n:κ)(L:List (κ×α)):zBS n (kmp g L)=(zBS n L).map g:=by
 simp only[zBS,kmp,List.find?_map,Option.map_map];rfl
theorem k_mp_srt {g:α→β}{L:List (κ×α)}(h:KSrt L):KSrt (kmp g L):=by
 unfold KSrt kmp;rw[List.pairwise_map];exact h
theorem k_srt_ext {L M:List (κ×α)}(j:KSrt L)(k:KSrt M)(h:∀n,zBS n L=zBS n M):L=M:=by
 have b:∀p,p∈L↔p∈M:=fun p=>by rw[←k_get_iff j (n:=p.1) (a:=p.2),h,k_get_iff k]
 induction L generalizing M with
 | nil =>
  cases M with
  | nil=>rfl
  | cons y s=>exact absurd ((b y).2 (by simp)) (by simp)
 | cons x r ih =>
  cases M with
  | nil=>exact absurd ((b x).1 (by simp)) (by simp)
  | cons y s =>
   obtain⟨f,B⟩:=List.pairwise_cons.1 j;obtain⟨i,C⟩:=List.pairwise_cons.1 k;have d:x=y:=by
    rcases List.mem_cons.1 ((b x).1 (by simp))with e|z
    ·exact e
    ·rcases List.mem_cons.1 ((b y).2 (by simp))with e|A
     ·exact e.symm
     ·have m:=i x z;have o:=f y A;have:=k_bb_trans m o;rw[k_bb_irrefl]at this;cases this
   subst d;have v:r=s:=by
    refine ih B C (fun n=>?_) fun p=>?_
    ·by_cases hn:x.1=n
     ·have q:zBS n r=none:=zCq.2 fun p c e=>k_bb_ne (f p c) (hn.trans e.symm);have t:zBS n s=none:=zCq.2 fun p c e=>k_bb_ne (i p c) (hn.trans e.symm);rw[q,t]
     ·have:=h n;simp only[zBS,List.find?_cons]at this;rw[show(x.1==n)=false by simpa using hn]at this;exact this
    ·have:=b p;simp only[List.mem_cons]at this
     constructor
     ·intro c;rcases this.1 (.inr c)with e|e
      ·subst e;exact absurd rfl (k_bb_ne (f p c))
      ·exact e
     ·intro c;rcases this.2 (.inr c)with e|e
      ·subst e;exact absurd rfl (k_bb_ne (i p c))
      ·exact e
   rw[v]
end
/-! ### The reading of a map in memory. -/
section
variable {κ α:Type} [OrdK κ]
structure KeyR (P:Program)(k:TypeId)(κ:Type) where
 v:κ→Value
 lit:κ→Lit
 ok:κ→Prop
 key:∀a,ok a→keyOf P k (v a)=some (lit a)
 inj:∀a b,ok a→ok b→lit a=lit b→a=b
 back:∀x l,keyOf P k x=some l→∀a,ok a→l=lit a→x=v a
structure ElemR (α:Type) where
 R:Value→Option (DataW Nat×List MemPlace)
 val:α→Value
 g:α→DataW Nat
 z:Value
 zd:DataW Nat
 ok:α→Prop
 rd:∀x,ok x→R (val x)=some (g x,[])
 inv:∀v y x,R v=some y→y.1=g x→v=val x
 zmk:R z=some (zd,[])
 zinv:∀v y,R v=some y→y.1=zd→v=z
def zAd (w:World)(P:Program)(k:TypeId)(K:KeyR P k κ)(E:ElemR α)(b:Nat)(L:List (κ×α)):Prop :=
 ∃es,w.ownsMap P k E.R b L.length (.map es)∧es.Perm (L.map fun p=>(K.lit p.1,E.g p.2))∧KSrt L∧∀p∈L,K.ok p.1
section
variable {P:Program} {k:TypeId} {K:KeyR P k κ} {E:ElemR α} {w w':World} {b:Nat} {L:List (κ×α)}
theorem zAd.keep (h:zAd w P k K E b L)(f:w'.heap[b]?=w.heap[b]?):zAd w' P k K E b L:=by
 obtain⟨es,⟨xs,c,i,r⟩,d⟩:=h;exact⟨es,⟨xs,c,f.trans i,r⟩,d⟩
theorem zAd.lt (h:zAd w P k K E b L):b<w.heap.size:=let ⟨_,h,_⟩:=h;h.lt
theorem zAd.srt (h:zAd w P k K E b L):KSrt L:=let ⟨_,_,_,h,_⟩:=h;h
theorem zDM (w:World):zAd (w.alloc (.map #[] 0)) P k K E w.heap.size ([]:List (κ×α)) :=
 ⟨[],w.ownsMap_made P k E.R,List.Perm.refl _,List.Pairwise.nil,fun p b=>by cases b⟩
theorem atKey_map (es:List (Lit×DataW Nat))(l:Lit)(zd:DataW Nat):(DataW.map es).atKey l zd=((es.find? fun p=>p.1.sameKey l).map (·.2)).getD zd:=by
 simp only[DataW.atKey];cases es.find? (fun p=>p.1.sameKey l)<;>rfl
theorem uniq_find {l:List (Lit×DataW Nat)}{f:Lit×DataW Nat→Bool}{x:Lit×DataW Nat}(c:x∈l)(b:f x=true)(d:∀y∈l,f y=true→y=x):l.find? f=some x:=by
 cases h:l.find? f with
 | none=>exact absurd b (by have:=List.find?_eq_none.1 h x c;simpa using this)
 | some y=>rw[d y (List.mem_of_find?_eq_some h) (List.find?_some h)]
theorem zAd.at (h:zAd w P k K E b L)(n:Keyed P k){a:κ}(o:K.ok a):∃es,w.ownsMap P k E.R b L.length (.map es)∧(∀zd,(DataW.map es).atKey (K.lit a) zd=((zBS a L).map E.g).getD zd)∧Maps.has (DataW.map es) (K.lit a)=(zBS a L).isSome:=by
 obtain⟨es,r,B,C,z⟩:=h;have A:∀p∈es,WideAt.IsKeyLit p.1:=by
  obtain⟨t,e,-,v⟩:=r.entries n;cases e;exact v
 have m:=n.key (K.key a o);have c:∀p,p∈es↔∃q∈L,(K.lit q.1,E.g q.2)=p:=fun p=>by rw[B.mem_iff,List.mem_map]
 have d:∀{q:κ×α},q∈L→(K.lit q.1).sameKey (K.lit a)=true→q.1=a:=fun {q} f e=>K.inj _ _ (z q f) o (WideAt.sameKey_eq e);refine⟨es,r,fun zd=>?_,?_⟩
 ·rw[atKey_map];cases j:zBS a L with
  | none =>
   rw[List.find?_eq_none.2 fun p i e=>?_]
   ·rfl
   ·obtain⟨q,f,rfl⟩:=(c p).1 i;exact zCq.1 j q f (d f e)
  | some x =>
   have s:=zA0 j;rw[uniq_find ((c (K.lit a,E.g x)).2 ⟨(a,x),s,rfl⟩) (WideAt.sameKey_self m) fun y D e=>?_]
   ·rfl
   ·obtain⟨q,f,rfl⟩:=(c y).1 D;have:=k_key_uniq C f s (d f e);rw[this]
 ·show es.any (fun p=>p.1.sameKey (K.lit a))=_
  cases j:zBS a L with
  | none =>
   rw[Option.isSome_none,List.any_eq_false];intro p i e;obtain⟨q,f,rfl⟩:=(c p).1 i;exact zCq.1 j q f (d f e)
  | some x =>
   rw[Option.isSome_some,List.any_eq_true];exact⟨_,(c _).2 ⟨(a,x),zA0 j,rfl⟩,WideAt.sameKey_self m⟩
def valOr (E:ElemR α)(o:Option α):Value:=match o with|some x=>E.val x|none=>E.z
theorem zAd.look (h:zAd w P k K E b L)(i:Keyed P k){t e:TypeId}(o:P.underlying t=some (.map k e))(p:(zeroValue e).run P w=.ok E.z w){a:κ}(j:K.ok a) :
  (Instr.lookup t (.map (some b)) (K.v a) false).run P w=.ok (valOr E (zBS a L)) w:=by
 obtain⟨es,n,f,-⟩:=h.at i j;obtain⟨v,q,c,d⟩:=n.lookup i o p E.zmk (K.key a j);rw[c];rw[f]at d;cases m:zBS a L with
 | none =>
  rw[m]at d;rw[E.zinv v _ d rfl];rfl
 | some x =>
  rw[m]at d;rw[E.inv v _ x d rfl];rfl
theorem zAd.look_ok (h:zAd w P k K E b L)(i:Keyed P k){t e:TypeId}(p:P.underlying t=some (.map k e))(q:(zeroValue e).run P w=.ok E.z w){a:κ}(j:K.ok a) :
  (Instr.lookup t (.map (some b)) (K.v a) true).run P w=.ok (.tuple #[valOr E (zBS a L),.bool (zBS a L).isSome]) w:=by
 obtain⟨es,o,f,n⟩:=h.at i j;obtain⟨v,r,c,d⟩:=o.look_ok i p q E.zmk (K.key a j);rw[c,n];rw[f]at d;cases m:zBS a L with
 | none =>
  rw[m]at d;rw[E.zinv v _ d rfl];rfl
 | some x =>
  rw[m]at d;rw[E.inv v _ x d rfl];rfl
theorem zAd.len (h:zAd w P k K E b L){t e:TypeId}(i:P.underlying t=some (.map k e))(ty:TypeId):(Builtin.len_ #[t] ty #[.map (some b)]).run P w=.ok (.int .i64 (L.length:Int)) w:=by
 obtain⟨es,d,f,-⟩:=h;have c:=d.len i ty;rw[show Maps.size (DataW.map es)=L.length by show es.length=_;rw[f.length_eq,List.length_map]]at c;exact c
theorem filter_key {a:κ}(d:K.ok a)(b:WideAt.IsKeyLit (K.lit a)){es:List (Lit×DataW Nat)}(i:es.Perm (L.map fun p=>(K.lit p.1,E.g p.2)))(f:∀p∈L,K.ok p.1) :
  (es.filter (ChangeMaps.notKey (K.lit a))).Perm ((kdel a L).map fun p=>(K.lit p.1,E.g p.2)):=by
 refine(i.filter _).trans ?_;rw[List.filter_map];unfold kdel;refine List.Perm.of_eq (congrArg _ (List.filter_congr fun p c=>?_))
 show(!(K.lit p.1).sameKey (K.lit a))=!(p.1==a)
 congr 1
 by_cases e:p.1=a
 ·rw[e,WideAt.sameKey_self b];simp
 ·rw[show(p.1==a)=false by simpa using e];cases h:(K.lit p.1).sameKey (K.lit a)with
  | false=>rfl
  | true=>exact absurd (K.inj _ _ (f p c) d (WideAt.sameKey_eq h)) e
theorem zAd.store (h:zAd w P k K E b L)(q:Keyed P k){t e:TypeId}(B:P.underlying t=some (.map k e))(hn:L.length<maxLen){a:κ}(f:K.ok a){x:α}(C:E.ok x) :
  ∃w',(Instr.mapUpdate t (.map (some b)) (K.v a) (E.val x)).run P w=.ok () w'∧zAd w' P k K E b (zDv a x L)∧w.mapTurned w' b:=by
 obtain⟨es,y,z,A,r⟩:=h;obtain⟨w',d,j,o⟩:=y.store q B hn (K.key a f) (E.rd x C);have i:=q.key (K.key a f);have c:=((WideShapes.insert_perm (K.lit a,E.g x) _).trans ((filter_key f i z r).cons (K.lit a,E.g x))).trans ((k_put_perm a x L).symm.map fun p:κ×α=>(K.lit p.1,E.g p.2));have n:Maps.size (DataW.map (ChangeMaps.putKey (K.lit a) (E.g x) es))=(zDv a x L).length:=by
  rw[show Maps.size (DataW.map (ChangeMaps.putKey (K.lit a) (E.g x) es))=(DataW.insert (K.lit a,E.g x) (es.filter (ChangeMaps.notKey (K.lit a)))).length from rfl,c.length_eq,List.length_map]
 refine⟨w',d,⟨ChangeMaps.putKey (K.lit a) (E.g x) es,?_,c,zEg A,fun p m=>?_⟩,o⟩
 ·rw[←n];exact exactly j
 ·rcases zCb.1 m with rfl|⟨s,-⟩
  ·exact f
  ·exact r p s
theorem zAd.drop (h:zAd w P k K E b L)(q:Keyed P k){t e:TypeId}(A:P.underlying t=some (.map k e)){a:κ}(f:K.ok a)(ty:TypeId) :
  ∃w',(Builtin.delete_ #[t,k] ty #[.map (some b),K.v a]).run P w=.ok (.tuple #[]) w'∧zAd w' P k K E b (kdel a L)∧w.mapTurned w' b:=by
 obtain⟨es,s,y,z,r⟩:=h;have i:=q.key (K.key a f);obtain⟨w',d,j,o⟩:=s.drop q A (K.key a f) ty;have c:=filter_key f i y r;have n:Maps.size (DataW.map (ChangeMaps.delKey (K.lit a) es))=(kdel a L).length:=by
  show(ChangeMaps.delKey (K.lit a) es).length=_
  rw[show ChangeMaps.delKey (K.lit a) es=es.filter (ChangeMaps.notKey (K.lit a))from rfl,c.length_eq,List.length_map]
 refine⟨w',d,⟨ChangeMaps.delKey (K.lit a) es,?_,c,k_srt_del z,fun p m=>r p (zDu.1 m).1⟩,o⟩;rw[←n];exact exactly j
def RangeIs (w:World)(P:Program)(k:TypeId)(K:KeyR P k κ)(E:ElemR α)(b r:Nat)(L rest:List (κ×α))(cnt:Nat):Prop :=
 ∃es left,w.ranges P k E.R b r L.length (.map es) left cnt∧es.Perm (L.map fun p=>(K.lit p.1,E.g p.2))∧KSrt L∧(∀p∈L,K.ok p.1)∧rest=L.filter (fun p=>left (K.lit p.1))∧∀kl,left kl=true→∃p∈L,K.lit p.1=kl
theorem zAd.range (h:zAd w P k K E b L)(m:Keyed P k){t e:TypeId}(A:P.underlying t=some (.map k e)) :
  ∃w',(Instr.range t (.map (some b))).run P w=.ok (.pointer (some ⟨w.heap.size,0,none⟩)) w'∧RangeIs w' P k K E b w.heap.size L L L.length∧w.grownBy w' none∧w'.heap.size=w.heap.size+1:=by
 obtain⟨es,y,i,a,o⟩:=h;obtain⟨w',r,n,s,v⟩:=y.range m A;have d:∀p,p∈es↔∃q∈L,(K.lit q.1,E.g q.2)=p:=fun p=>by rw[i.mem_iff,List.mem_map]
 have j:Maps.size (DataW.map es)=L.length:=by
  rw[show Maps.size (DataW.map es)=es.length from rfl,i.length_eq,List.length_map]
 rw[j]at n;refine⟨w',r,⟨es,_,n,i,a,o,(List.filter_eq_self.2 fun p c=>?_).symm,fun B f=>?_⟩,s,v⟩
 ·show es.any (fun q=>q.1.sameKey (K.lit p.1))=true
  exact List.any_eq_true.2 ⟨_,(d _).2 ⟨p,c,rfl⟩,WideAt.sameKey_self (m.key (K.key _ (o p c)))⟩
 ·obtain⟨q,z,e⟩:=List.any_eq_true.1 (show es.any (fun q=>q.1.sameKey B)=true from f);obtain⟨p,c,rfl⟩:=(d q).1 z;exact⟨p,c,WideAt.sameKey_eq e⟩
theorem RangeIs.map {b r cnt:Nat}{rest:List (κ×α)}(h:RangeIs w P k K E b r L rest cnt):zAd w P k K E b L:=let ⟨es,_,h1,h2,h3,h4,_⟩:=h;⟨es,h1.owns,h2,h3,h4⟩
theorem RangeIs.next {r cnt:Nat}{rest:List (κ×α)}(h:RangeIs w P k K E b r L rest cnt)(M:Keyed P k)(ty:TypeId) :
  (rest=[]∧(Instr.next (.pointer (some ⟨r,0,none⟩)) false ty).run P w=.ok (.tuple #[.bool false]) w) ∨
  ∃p w' d,p∈rest∧p∈L∧(Instr.next (.pointer (some ⟨r,0,none⟩)) false ty).run P w=.ok (.tuple #[.bool true,K.v p.1,E.val p.2]) w'∧RangeIs w' P k K E b r L (kdel p.1 rest) d∧d<cnt∧w.grownBy w' (some r)∧w'.heap.size=w.heap.size∧(Instr.entry (.pointer (some ⟨r,0,none⟩))).run P w'=.ok (.tuple #[K.v p.1,E.val p.2]) w':=by
 obtain⟨es,S,U,Q,R,j,rfl,O⟩:=h;rcases U.next M ty with⟨-,T,f⟩|⟨I,v,J,y,w',d,n,s,V,a,f,F,D,B,G,A⟩
 ·exact .inl ⟨List.filter_eq_nil_iff.2 fun p _=>by rw[T];simp,f⟩
 ·obtain⟨p,c,rfl⟩:=O J s;have i:∀p,p∈es↔∃q∈L,(K.lit q.1,E.g q.2)=p:=fun p=>by rw[Q.mem_iff,List.mem_map]
  have m:=M.key (K.key p.1 (j p c));have C:=K.back I _ n p.1 (j p c) rfl;have W:y.1=E.g p.2:=by
   have N:=a .nil;rw[atKey_map,uniq_find ((i (K.lit p.1,E.g p.2)).2 ⟨p,c,rfl⟩) (WideAt.sameKey_self m) fun z X e=>?_]at N
   ·exact N.symm
   ·obtain⟨q,t,rfl⟩:=(i z).1 X;rw[k_key_uniq R t c (K.inj _ _ (j q t) (j p c) (WideAt.sameKey_eq e))]
  have H:=E.inv v y p.2 V W;subst C;subst H;refine .inr ⟨p,w',d,List.mem_filter.2 ⟨c,s⟩,c,f,⟨es,_,F,Q,R,j,?_,fun J o=>O J (by simp at o;exact o.1)⟩,D,B,G,A⟩;unfold kdel;rw[List.filter_filter];refine List.filter_congr fun q t=>?_;rw[Bool.and_comm]
  congr 1
  by_cases e:q.1=p.1
  ·rw[e,WideAt.sameKey_self m];simp
  ·rw[show(q.1==p.1)=false by simpa using e];cases h:(K.lit q.1).sameKey (K.lit p.1)with
   | false=>rfl
   | true=>exact absurd (K.inj _ _ (j q t) (j p c) (WideAt.sameKey_eq h)) e
end
end
/-! ### Kinds of keys -/
def bsV (b:Bs):ByteArray:=⟨b.toArray⟩
theorem bsV_of (s:ByteArray):bsV s.data.toList=s:=by
 unfold bsV;simp
theorem keyOf_string_inv' {P:Program}{k:TypeId}(f:P.underlying k=some .string){b:Value}{c:Lit}(h:keyOf P k b=some c):∃s:ByteArray,b=.string s∧c=.string s.data.toList∧s.size≤maxLen:=by
 cases b<;>simp[keyOf,f,mapKey]at h
 obtain⟨d,rfl⟩:=h;exact⟨_,rfl,rfl,d⟩
def strK {P:Program}{k:TypeId}(c:P.underlying k=some .string):KeyR P k Bs where
 v b:=.string (bsV b)
 lit b:=.string b
 ok b:=b.length≤maxLen
 key b h:=by
  have:=WideMaps.keyOf_string_mk (P:=P) c (s:=bsV b) (by show b.toArray.size≤maxLen;simpa using h);simpa[bsV]using this
 inj a b _ _ e:=by
  cases e;rfl
 back x l h a _ e:=by
  subst e;obtain⟨s,rfl,e,-⟩:=keyOf_string_inv' c h;cases e;rw[bsV_of]
theorem strK_v {P:Program}{k:TypeId}(b:P.underlying k=some .string)(s:ByteArray):(strK b).v s.data.toList=.string s:=by
 show Value.string (bsV s.data.toList)=_
 rw[bsV_of]
def intK {P:Program}{k:TypeId}(c:P.underlying k=some (.int .i64)):KeyR P k Int where
 v n:=.int .i64 n
 lit n:=.int .i64 n
 ok n:=(Lit.int .i64 n).wf=true
 key n h:=Maps.keyOf_int_mk c h
 inj a b _ _ e:=by
  cases e;rfl
 back x l h a _ e:=by
  subst e;obtain⟨y,rfl,e,-⟩:=Maps.keyOf_int_inv c h;cases e;rfl
noncomputable def elemK {α:Type}(val:α→Value)(g:α→DataW Nat)(d:∀x y,val x=val y→x=y)(c:∀x y,g x=g y→x=y)(z:α):ElemR α where
 R v:=open Classical in if h:∃x,v=val x then some (g h.choose,[])else none
 val:=val
 g:=g
 z:=val z
 zd:=g z
 ok _:=True
 rd x _:=by
  have h:∃y,val x=val y:=⟨x,rfl⟩;rw[dif_pos h];rw[show h.choose=x from(d _ _ h.choose_spec).symm]
 inv v y x h e:=by
  by_cases b:∃x,v=val x
  ·rw[dif_pos b]at h;cases h;rw[b.choose_spec,c _ _ e]
  ·rw[dif_neg b]at h;cases h
 zmk:=by
  have h:∃y,val z=val y:=⟨z,rfl⟩;rw[dif_pos h];rw[show h.choose=z from(d _ _ h.choose_spec).symm]
 zinv v y h e:=by
  by_cases b:∃x,v=val x
  ·rw[dif_pos b]at h;cases h;rw[b.choose_spec,c _ _ e]
  ·rw[dif_neg b]at h;cases h
end Go.Sat
