/- What the program's functions and the document's do, and plain laws, for PJournalKept. -/
import Derived.BigQuiet
import Derived.ChangeOld
import Derived.Deep.DrawnRows
import Derived.Deep.LoopGhost
import Derived.Deep.Matrix
import Derived.Deep.QuietTactic
import Derived.Deep.RegionHeld
import Derived.Deep.RegionHeld3
import Derived.Lib.Hide
import Derived.Lib.SlParts
import Derived.Maps.OwnOps
import Derived.Maps.RangeWalk
import Derived.Maps.StringElems
import Derived.OpenShut
import Derived.ProofKit
import Derived.ShutString
import Derived.SizedLaws
import Derived.WalkKit
import Derived.WalkLawsBesides
import Derived.WalkSpells
import Derived.Test.YtapfnehdgailmaaGreatChecked
import Derived.Test.YtapfnehdgailmaaGreatRows
import Derived.Test.YtapfnehdgailmaaGreatMShelf
open Go.Proofs.Tryz
set_option maxRecDepth 100000
set_option maxHeartbeats 64000000
namespace Go.Sat
theorem zh {p:Prop}(h:p):Go.RowKit.Hid p:=h
theorem zW (p:Prop)(h:p):Go.RowKit.Hid p:=h
end Go.Sat
theorem Go.RowKit.Hid.o {p:Prop}(h:Go.RowKit.Hid p):p:=h
theorem Go.Shut.o {p:Prop}(h:Go.Shut p):p:=h
namespace Go.Sat
open Go.Maps (Keyed)
abbrev Bs:=List UInt8
section
variable {α β:Type}
def get (n:Bs)(L:List (Bs×α)):Option α:=(L.find? (fun p=>p.1==n)).map (·.2)
def del (n:Bs)(L:List (Bs×α)):List (Bs×α):=L.filter (fun p=>!(p.1==n))
def ins (x:Bs×α):List (Bs×α)→List (Bs×α)
 | []=>[x]
 | y::r=>if bytesBefore x.1 y.1 then x::y::r else y::ins x r
def put (n:Bs)(a:α)(L:List (Bs×α)):List (Bs×α):=ins (n,a) (del n L)
def Srt (L:List (Bs×α)):Prop:=L.Pairwise (fun p q=>bytesBefore p.1 q.1=true)
def zBM (f:α→Nat)(L:List (Bs×α)):Nat:=(L.map fun p=>f p.2).sum
theorem zF1 (a:Bs):bytesBefore a a=false:=WideAt.bytes_irrefl a
theorem zF2 {a b c:Bs}(h:bytesBefore a b=true)(k:bytesBefore b c=true):bytesBefore a c=true:=WideShapes.bytes_trans a b c h k
theorem bb_total (a b:Bs)(h:a≠b):bytesBefore a b=true∨bytesBefore b a=true:=WideAt.bytes_total a b h
theorem bb_ne {a b:Bs}(h:bytesBefore a b=true):a≠b:=by
 rintro rfl;rw[zF1]at h;cases h
theorem srt_nil:Srt ([]:List (Bs×α)):=List.Pairwise.nil
theorem zCU {n:Bs}{L:List (Bs×α)}(h:Srt L):Srt (del n L):=h.filter _
theorem mem_ins {x y:Bs×α}:∀{L:List (Bs×α)},y∈ins x L↔y=x∨y∈L
 | []=>by simp[ins]
 | z::r=>by
  unfold ins
  split
  ·simp
  ·simp[mem_ins (L:=r)]
   constructor
   ·rintro(h|h|h)<;>simp[h]
   ·rintro(h|h|h)<;>simp[h]
theorem ins_perm (x:Bs×α):∀(L:List (Bs×α)),(ins x L).Perm (x::L)
 | []=>List.Perm.refl _
 | z::r=>by
  unfold ins
  split
  ·exact List.Perm.refl _
  ·exact((ins_perm x r).cons z).trans (List.Perm.swap x z r)
theorem srt_ins {x:Bs×α}:∀{L:List (Bs×α)},Srt L→(∀p∈L,p.1≠x.1)→Srt (ins x L)
 | [],_,_=>by simp[ins,Srt]
 | y::r,h,hne=>by
  obtain⟨f,g⟩:=List.pairwise_cons.1 h;unfold ins
  split
  ·rename_i hb
   refine List.pairwise_cons.2 ⟨fun q b=>?_,h⟩;rcases List.mem_cons.1 b with rfl|b
   ·exact hb
   ·exact zF2 hb (f q b)
  ·rename_i hb
   have d:bytesBefore y.1 x.1=true:=by
    rcases bb_total x.1 y.1 (hne y (by simp)).symm with c|c
    ·exact absurd c hb
    ·exact c
   refine List.pairwise_cons.2 ⟨fun q b=>?_,srt_ins g (fun p i=>hne p (by simp[i]))⟩;rcases mem_ins.1 b with rfl|b
   ·exact d
   ·exact f q b
theorem zBT {n:Bs}{p:Bs×α}{L:List (Bs×α)}:p∈del n L↔p∈L∧p.1≠n:=by
 simp[del]
theorem zBr {n:Bs}{a:α}{L:List (Bs×α)}(h:Srt L):Srt (put n a L) :=
 srt_ins (zCU h) fun _ b=>(zBT.1 b).2
theorem zBl {n:Bs}{a:α}{p:Bs×α}{L:List (Bs×α)}:p∈put n a L↔p=(n,a)∨(p∈L∧p.1≠n):=by
 unfold put;rw[mem_ins,zBT]
theorem put_perm (n:Bs)(a:α)(L:List (Bs×α)):(put n a L).Perm ((n,a)::del n L):=ins_perm _ _
theorem zCh {n:Bs}{L:List (Bs×α)}:get n L=none↔∀p∈L,p.1≠n:=by
 simp[get,List.find?_eq_none]
theorem zBv {n:Bs}{a:α}{L:List (Bs×α)}(h:get n L=some a):(n,a)∈L:=by
 simp only[get,Option.map_eq_some_iff]at h;obtain⟨p,c,rfl⟩:=h;have d:=List.mem_of_find?_eq_some c;have b:=List.find?_some c;simp at b;rw[←b];exact d
theorem zGJ {L:List (Bs×α)}(h:Srt L){p q:Bs×α}(i:p∈L)(j:q∈L)(e:p.1=q.1):p=q:=by
 induction L with
 | nil=>simp at i
 | cons y r ih =>
  obtain⟨g,k⟩:=List.pairwise_cons.1 h;rcases List.mem_cons.1 i with f|c
  ·rcases List.mem_cons.1 j with d|b
   ·rw[f,d]
   ·exact absurd (f▸e) (bb_ne (g q b))
  ·rcases List.mem_cons.1 j with d|b
   ·exact absurd (d▸e).symm (bb_ne (g p c))
   ·exact ih k c b
theorem zDN {L:List (Bs×α)}(h:Srt L){n:Bs}{a:α}(d:(n,a)∈L):get n L=some a:=by
 cases c:get n L with
 | none=>exact absurd rfl (zCh.1 c _ d)
 | some b =>
  have:=zGJ h d (zBv c) rfl;simp at this;rw[this]
theorem get_iff {L:List (Bs×α)}(h:Srt L){n:Bs}{a:α}:get n L=some a↔(n,a)∈L:=⟨zBv,zDN h⟩
theorem zBQ {L:List (Bs×α)}(h:Srt L)(n:Bs)(a:α):get n (put n a L)=some a :=
 zDN (zBr h) (zBl.2 (.inl rfl))
theorem zBP {L:List (Bs×α)}(h:Srt L){n m:Bs}(a:α)(c:m≠n):get m (put n a L)=get m L:=by
 cases d:get m L with
 | none =>
  rw[zCh]at d ⊢;intro p f;rcases zBl.1 f with rfl|⟨f,_⟩
  ·exact c.symm
  ·exact d p f
 | some b=>exact zDN (zBr h) (zBl.2 (.inr ⟨zBv d,c⟩))
theorem zCX (n:Bs)(L:List (Bs×α)):get n (del n L)=none:=zCh.2 fun _ b=>(zBT.1 b).2
theorem zCg {L:List (Bs×α)}(h:Srt L){n m:Bs}(d:m≠n):get m (del n L)=get m L:=by
 cases c:get m L with
 | none=>rw[zCh]at c ⊢;exact fun p f=>c p (zBT.1 f).1
 | some b=>exact zDN (zCU h) (zBT.2 ⟨zBv c,d⟩)
theorem zC1 {n:Bs}{L:List (Bs×α)}(h:get n L=none):del n L=L:=by
 rw[zCh]at h;exact List.filter_eq_self.2 fun p b=>by simpa using h p b
theorem sum_perm {f:α→Nat}{L L':List (Bs×α)}(h:L.Perm L'):zBM f L=zBM f L':=by
 induction h with
 | nil=>rfl
 | cons x _ ih=>simp only[zBM,List.map_cons,List.sum_cons]at ih ⊢;omega
 | swap x y l=>simp only[zBM,List.map_cons,List.sum_cons];omega
 | trans _ _ ih1 ih2=>exact ih1.trans ih2
theorem sum_cons (f:α→Nat)(x:Bs×α)(L:List (Bs×α)):zBM f (x::L)=f x.2+zBM f L:=rfl
theorem sum_put (f:α→Nat)(n:Bs)(a:α)(L:List (Bs×α)):zBM f (put n a L)=f a+zBM f (del n L):=sum_perm (put_perm n a L)
theorem split_at {L:List (Bs×α)}(h:Srt L){n:Bs}{a:α}(b:get n L=some a):L.Perm ((n,a)::del n L):=by
 induction L with
 | nil=>simp[get]at b
 | cons y r ih =>
  obtain⟨j,k⟩:=List.pairwise_cons.1 h
  by_cases c:y.1=n
  ·have i:y=(n,a):=zGJ h (by simp) (zBv b) c;have f:del n (y::r)=r:=by
    have d:∀p∈r,bytesBefore y.1 p.1=true:=j;unfold del;rw[List.filter_cons,if_neg (by simp[c])];refine List.filter_eq_self.2 fun p l=>?_;have:=bb_ne (d p l);rw[c]at this;simpa using fun e=>this (Eq.symm e)
   rw[f,i]
  ·have g:get n r=some a:=by
    simp only[get,List.find?_cons]at b;rw[show(y.1==n)=false by simpa using c]at b;exact b
   have f:del n (y::r)=y::del n r:=by
    unfold del;rw[List.filter_cons,if_pos (by simpa using c)]
   rw[f];exact((ih k g).cons y).trans (List.Perm.swap _ _ _)
theorem zC0 {f:α→Nat}{L:List (Bs×α)}(h:Srt L){n:Bs}{a:α}(b:get n L=some a):zBM f L=f a+zBM f (del n L):=sum_perm (split_at h b)
theorem zFm (n:Bs)(a:α)(L:List (Bs×α)):(put n a L).length=(del n L).length+1:=(put_perm n a L).length_eq
theorem len_del {L:List (Bs×α)}(h:Srt L){n:Bs}{a:α}(b:get n L=some a):L.length=(del n L).length+1:=(split_at h b).length_eq
theorem zD6 (n:Bs)(L:List (Bs×α)):(del n L).length≤L.length:=List.length_filter_le _ _
def mp (g:α→β)(L:List (Bs×α)):List (Bs×β):=L.map fun p=>(p.1,g p.2)
theorem mp_ins (g:α→β)(x:Bs×α):∀L:List (Bs×α),mp g (ins x L)=ins (x.1,g x.2) (mp g L)
 | []=>rfl
 | y::r=>by
  simp only[ins,mp,List.map_cons]
  split
  ·simp
  ·simp only[List.map_cons];rw[show List.map (fun p:Bs×α=>(p.1,g p.2)) (ins x r)=mp g (ins x r)from rfl,mp_ins g x r];rfl
theorem mp_del (g:α→β)(n:Bs)(L:List (Bs×α)):mp g (del n L)=del n (mp g L):=by
 simp only[mp,del,List.filter_map];rfl
theorem mp_put (g:α→β)(n:Bs)(a:α)(L:List (Bs×α)):mp g (put n a L)=put n (g a) (mp g L):=by
 simp only[put,mp_ins,mp_del]
theorem zGL (g:α→β)(n:Bs)(L:List (Bs×α)):get n (mp g L)=(get n L).map g:=by
 simp only[get,mp,List.find?_map,Option.map_map];rfl
theorem mp_srt {g:α→β}{L:List (Bs×α)}(h:Srt L):Srt (mp g L):=by
 unfold Srt mp;rw[List.pairwise_map];exact h
theorem mp_len (g:α→β)(L:List (Bs×α)):(mp g L).length=L.length:=by simp[mp]
theorem mp_sum (f:β→Nat)(g:α→β)(L:List (Bs×α)):zBM f (mp g L)=zBM (fun a=>f (g a)) L:=by
 simp only[zBM,mp,List.map_map];rfl
theorem srt_ext {L M:List (Bs×α)}(i:Srt L)(j:Srt M)(h:∀n,get n L=get n M):L=M:=by
 have b:∀p,p∈L↔p∈M:=fun p=>by rw[←get_iff i (n:=p.1) (a:=p.2),h,get_iff j]
 induction L generalizing M with
 | nil =>
  cases M with
  | nil=>rfl
  | cons y s=>exact absurd ((b y).2 (by simp)) (by simp)
 | cons x r ih =>
  cases M with
  | nil=>exact absurd ((b x).1 (by simp)) (by simp)
  | cons y s =>
   obtain⟨f,z⟩:=List.pairwise_cons.1 i;obtain⟨g,A⟩:=List.pairwise_cons.1 j;have d:x=y:=by
    rcases List.mem_cons.1 ((b x).1 (by simp))with e|t
    ·exact e
    ·rcases List.mem_cons.1 ((b y).2 (by simp))with e|v
     ·exact e.symm
     ·have k:=g x t;have l:=f y v;have:=zF2 k l;rw[zF1]at this;cases this
   subst d;have q:r=s:=by
    refine ih z A (fun n=>?_) fun p=>?_
    ·by_cases hn:x.1=n
     ·have m:get n r=none:=zCh.2 fun p c e=>bb_ne (f p c) (hn.trans e.symm);have o:get n s=none:=zCh.2 fun p c e=>bb_ne (g p c) (hn.trans e.symm);rw[m,o]
     ·have:=h n;simp only[get,List.find?_cons]at this;rw[show(x.1==n)=false by simpa using hn]at this;exact this
    ·have:=b p;simp only[List.mem_cons]at this
     constructor
     ·intro c;rcases this.1 (.inr c)with e|e
      ·subst e;exact absurd rfl (bb_ne (f p c))
      ·exact e
     ·intro c;rcases this.2 (.inr c)with e|e
      ·subst e;exact absurd rfl (bb_ne (g p c))
      ·exact e
   rw[q]
end
/-! ### The reading of a map in memory. -/
section
variable {H α:Type}
def dm (g:α→DataW H)(L:List (Bs×α)):DataW H:=.map (L.map fun p=>(Lit.string p.1,g p.2))
theorem sk (a b:Bs):(Lit.string a).sameKey (.string b)=(a==b):=rfl
theorem dm_insert (g:α→DataW H)(x:Bs×α):∀L:List (Bs×α),DataW.insert (Lit.string x.1,g x.2) (L.map fun p=>(Lit.string p.1,g p.2))=(ins x L).map fun p=>(Lit.string p.1,g p.2)
 | []=>rfl
 | y::r=>by
  have f:=dm_insert g x r;have c:DataW.insert (Lit.string x.1,g x.2) ((y::r).map fun p=>(Lit.string p.1,g p.2)) =
    (if bytesBefore x.1 y.1=true then(Lit.string x.1,g x.2)::(Lit.string y.1,g y.2)::r.map fun p=>(Lit.string p.1,g p.2)
     else(Lit.string y.1,g y.2)::DataW.insert (Lit.string x.1,g x.2) (r.map fun p=>(Lit.string p.1,g p.2))):=rfl
  have d:ins x (y::r)=if bytesBefore x.1 y.1=true then x::y::r else y::ins x r:=rfl
  rw[c,f,d]
  by_cases b:bytesBefore x.1 y.1=true
  ·rw[if_pos b,if_pos b];rfl
  ·rw[if_neg b,if_neg b];rfl
theorem dm_del (g:α→DataW H)(n:Bs)(L:List (Bs×α)):(dm g L).del (.string n)=dm g (del n L):=by
 simp only[dm,DataW.del,del,List.filter_map];rfl
theorem dm_put (g:α→DataW H)(n:Bs)(a:α)(L:List (Bs×α)):(dm g L).put (.string n) (g a)=dm g (put n a L):=by
 have h:=dm_insert g (n,a) (del n L);have e:(dm g L).put (.string n) (g a)=.map (DataW.insert (Lit.string n,g a) ((del n L).map fun p=>(Lit.string p.1,g p.2))):=by
  simp only[dm,DataW.put,del,List.filter_map];rfl
 rw[e,h];rfl
theorem dm_atKey (g:α→DataW H)(n:Bs)(L:List (Bs×α))(z:DataW H):(dm g L).atKey (.string n) z=((get n L).map g).getD z:=by
 simp only[dm,DataW.atKey,List.find?_map,get,Option.map_map];rw[show((fun p:Lit×DataW H=>p.1.sameKey (Lit.string n)) ∘ fun p:Bs×α=>(Lit.string p.1,g p.2))=fun p=>p.1==n from rfl];cases List.find? (fun p:Bs×α=>p.1==n) L<;>rfl
theorem dm_has (g:α→DataW H)(n:Bs)(L:List (Bs×α)):Maps.has (dm g L) (.string n)=(get n L).isSome:=by
 simp only[dm,Maps.has,List.any_map,get,Option.isSome_map];rw[show((fun p:Lit×DataW H=>p.1.sameKey (Lit.string n)) ∘ fun p:Bs×α=>(Lit.string p.1,g p.2))=fun p=>p.1==n from rfl]
 induction L with
 | nil=>rfl
 | cons y r ih =>
  simp only[List.any_cons,List.find?_cons];cases(y.1==n)<;>simp[ih]
theorem dm_size (g:α→DataW H)(L:List (Bs×α)):Maps.size (dm g L)=L.length:=by simp[dm,Maps.size]
theorem exactly {w:World}{P:Program}{k:TypeId}{R:Value→Option (DataW H×List MemPlace)}{b n:Nat}{D:DataW H}(h:w.ownsMap P k R b n D):w.ownsMap P k R b (Maps.size D) D:=by
 obtain⟨es,c,d,F,f,rfl⟩:=h;exact⟨es,c,d,F,by simp[Maps.size,length_sorted],rfl⟩
def ptrR:Value→Option (DataW Nat×List MemPlace)
 | .pointer (some ⟨b,0,none⟩)=>some (.held b,[])
 | .pointer none=>some (.nil,[])
 | _=>none
theorem ptrR_inv {v:Value}{y:DataW Nat×List MemPlace}{b:Nat}(h:ptrR v=some y)(c:y.1=.held b):v=.pointer (some ⟨b,0,none⟩):=by
 unfold ptrR at h
 split at h
 ·simp at h;subst h;simp at c;rw[c]
 ·simp at h;subst h;simp at c
 ·simp at h
end
end Go.Sat
namespace Go.Sat
open Go.RowKit
def OwnR (w:World)(e:TypeId)(size:Nat)(v:Value)(n:Nat)(xs:List Value):Prop :=
 xs.length=n*size ∧
 ((v=.slice none 0 0∧n=0) ∨
  ∃g cap cur,v=.slice (some ⟨g,0,none⟩) n cap∧w.heap[g]?=some (.cells cur e (0,0))∧n≤cap∧cap≤maxLen∧cap*size≤cur.size∧cur.toList.take (n*size)=xs)
def zAM (w:World)(size:Nat)(v:Value)(n:Nat)(xs:List Value):Prop :=
 xs.length=n*size∧∃p cap,v=.slice p n cap∧(p=none→n=0)∧∀a,p=some a→∀(i:Nat) u,xs[i]?=some u→w.cell? (a.add i)=some u
section
variable {w w':World} {e:TypeId} {size:Nat} {v:Value} {n:Nat} {xs:List Value}
theorem OwnR.nil (w:World)(e:TypeId)(size:Nat):OwnR w e size (.slice none 0 0) 0 []:=⟨by simp,.inl ⟨rfl,rfl⟩⟩
theorem OwnR.lt (h:OwnR w e size v n xs){k:Nat}(b:v.ownBlock=some k):k<w.heap.size:=by
 rcases h.2 with⟨rfl,_⟩|⟨g,c,cur,rfl,d,_⟩
 ·simp[Value.ownBlock]at b
 ·simp[Value.ownBlock]at b;subst b;exact(Array.getElem?_eq_some_iff.1 d).1
theorem OwnR.keep (h:OwnR w e size v n xs)(c:∀k,v.ownBlock=some k→w'.heap[k]?=w.heap[k]?):OwnR w' e size v n xs:=by
 refine⟨h.1,?_⟩;rcases h.2 with hn|⟨g,b,cur,rfl,d,rest⟩
 ·exact .inl hn
 ·exact .inr ⟨g,b,cur,rfl,(c g rfl).trans d,rest⟩
theorem add_zero (g j:Nat):(⟨g,0,none⟩:Addr).add j=⟨g,j,none⟩:=by
 unfold Addr.add
 split<;>simp_all
theorem OwnR.cells (h:OwnR w e size v n xs){g:Nat}(d:v.ownBlock=some g):∀j u,xs[j]?=some u→w.cell? ((⟨g,0,none⟩:Addr).add j)=some u:=by
 intro j u c;rcases h.2 with⟨rfl,_⟩|⟨k,i,cur,rfl,f,_,_,_,b⟩
 ·simp[Value.ownBlock]at d
 ·simp[Value.ownBlock]at d;subst d;rw[add_zero,cell_of_row w k j cur e (0,0) f];rw[←b,List.getElem?_take]at c
  split at c
  ·simpa using c
  ·cases c
theorem OwnR.holds (h:OwnR w e size v n xs):zAM w size v n xs:=by
 refine⟨h.1,?_⟩;rcases h.2 with⟨rfl,rfl⟩|⟨g,b,cur,rfl,d,_⟩
 ·exact⟨none,0,rfl,fun _=>rfl,fun a c=>by cases c⟩
 ·refine⟨some ⟨g,0,none⟩,b,rfl,fun e=>by(cases e),fun a c i u f=>?_⟩;cases c;exact h.cells rfl i u f
theorem OwnR.shape (h:OwnR w e size v n xs):∃p c,v=.slice p n c:=by
 obtain⟨_,p,c,rfl,_⟩:=h.holds;exact⟨p,c,rfl⟩
theorem OwnR.of_kit {base:Nat}(h:w.ownsRow base e size v n xs):OwnR w e size v n xs:=by
 refine⟨h.1,?_⟩;rcases h.2 with hn|⟨g,b,cur,rfl,_,i,d,c,f,j⟩
 ·exact .inl hn
 ·exact .inr ⟨g,b,cur,rfl,i,d,c,by omega,j⟩
theorem OwnR.block_ge {base:Nat}(h:w.ownsRow base e size v n xs){k:Nat}(b:v.ownBlock=some k):base≤k:=(World.ownsRow.lt h k b).1
theorem zAM.len (h:zAM w size v n xs):xs.length=n*size:=h.1
theorem zAM.keep (h:zAM w size v n xs)(g:∀k,v.ownBlock=some k→w'.heap[k]?=w.heap[k]?):zAM w' size v n xs:=by
 obtain⟨l,p,b,rfl,f,j⟩:=h;refine⟨l,p,b,rfl,f,fun a c i u m=>?_⟩;rw[←j a c i u m];refine World.cell?_of_block ?_;have d:(a.add i).block=a.block:=by unfold Addr.add;split<;>rfl
 rw[d];exact g a.block (by rw[c];rfl)
end
section
variable {P:Program} (w:World)
theorem run_app (t ty e:TypeId)(i:TypeInfo)(z:Value)(size bytes:Nat)(N:P.underlying t=some (.slice e))(J:P.info? e=some i)(Z:i.zero=some z)
  (E:i.size=size) (R:i.bytes=bytes) (X:z.cells.size=size) (aa:0<size)
  (v:Value) (n:Nat) (xs:List Value) (d:OwnR w e size v n xs)
  (x:Value) (m:Nat) (b:List Value) (W:zAM w size x m b) (K:∀u∈b,u.oneCell'=true)
  (F:n+m≤maxLen) (r:(n+m)*bytes≤140737488355328) :
  ∃v' w',(Builtin.append_ #[t,t] ty #[v,x]).run P w=.ok v' w'∧OwnR w' e size v' (n+m) (xs++b)∧w.grownBy w' v.ownBlock ∧
   (v'.ownBlock=v.ownBlock∨∃g,v'.ownBlock=some g∧w.heap.size≤g):=by
 subst E;subst R;obtain⟨C,p,c,rfl,V,f⟩:=W;have Q:n+m≤9223372036854775807:=by simp only[maxLen]at F;omega
 have s:(xs++b).length=(n+m)*i.size:=by rw[List.length_append,d.1,C,Nat.add_mul]
 by_cases Y:m=0
 ·subst Y;have hn:b=[]:=List.eq_nil_of_length_eq_zero (by simpa using C);subst hn;refine⟨v,w,?_,by simpa using d,⟨rfl,rfl,rfl,Nat.le_refl _,fun _ _ _=>rfl⟩,.inl rfl⟩;have H:(Builtin.firstCells i.size 0 (.slice p 0 c)).run P w=.ok #[] w:=by
   cases p<;>simp[Builtin.firstCells,loadCells,loadCellsFrom]
  rcases d.2 with⟨rfl,rfl⟩|⟨g,o,cur,rfl,S,L,B,G,A⟩
  ·simp[Builtin.append_,run_underlying N,sizeOf,typeInfo,J,Builtin.lenOf,H]
  ·simp[Builtin.append_,run_underlying N,sizeOf,typeInfo,J,Builtin.lenOf,H,L,storeCells]
 obtain⟨a,rfl⟩:∃a,p=some a:=by
  cases p with
  | none=>exact absurd (V rfl) Y
  | some a=>exact⟨a,rfl⟩
 have f:=f a rfl;have h:∀(l:Nat),l<n+m→∀(O:Option Nat),
   OwnR (w.drew.alloc (.cells (xs.toArray++b.toArray++Builtin.zeroCells z.cells (grownCap w (n+m) l e-(n+m))) e)) e i.size
    (.slice (some ⟨w.heap.size,0,none⟩) (n+m) (grownCap w (n+m) l e)) (n+m) (xs++b) ∧
   w.grownBy (w.drew.alloc (.cells (xs.toArray++b.toArray++Builtin.zeroCells z.cells (grownCap w (n+m) l e-(n+m))) e)) O:=by
  intro l ho O;have T:=grownCap_ge w (n+m) l e;have B:grownCap w (n+m) l e≤maxLen:=grownCap_le_maxLen w (n+m) l e F;refine⟨⟨s,.inr ⟨w.heap.size,_,_,rfl,heap_alloc_new w.drew _,T,B,?_,?_⟩⟩,⟨rfl,rfl,rfl,by simp,fun k U _=>heap_alloc_old w.drew _ U⟩⟩
  ·simp only[Array.size_append,List.size_toArray,size_zeroCells,X,d.1,C,←Nat.add_mul];apply Nat.le_of_eq
   congr 1
   omega
  ·simp only[Array.toList_append,List.append_assoc];rw[←List.append_assoc,←s];exact List.take_left
 rcases d.2 with⟨rfl,rfl⟩|⟨g,o,cur,rfl,S,L,B,G,A⟩
 ·have W:xs=[]:=List.eq_nil_of_length_eq_zero (by simpa using d.1);subst W;have M:=run_append_nil (P:=P) w t ty e i z N J Z a m c b C f (by omega) (by omega) (by have hb:=r;simp only[Nat.zero_add]at hb;omega);have y:=h 0 (by omega) (Value.ownBlock (.slice none 0 0));simp only[Nat.zero_add,List.nil_append,Array.empty_append]at y ⊢;exact⟨_,_,M,y.1,y.2,.inr ⟨_,rfl,Nat.le_refl _⟩⟩
 ·by_cases q:n+m≤o
  ·have I:n*i.size+b.length≤cur.size:=by
    rw[C,←Nat.add_mul];exact Nat.le_trans (Nat.mul_le_mul_right _ q) G
   have M:=run_append_room (P:=P) w t ty e i N J g n o cur S a m c b C f K q I;refine⟨_,_,M,⟨s,.inr ⟨g,o,_,rfl,setRow_heap w g cur _ e _ S,q,B,?_,?_⟩⟩,⟨rfl,rfl,rfl,by simp,fun k _ U=>setRow_other w g k _ (fun e=>U (by simp[Value.ownBlock,e]))⟩,.inl rfl⟩
   ·simp only[List.size_toArray,List.length_append,List.length_take,List.length_drop,Array.length_toList];omega
   ·rw[A,←s];exact List.take_left
  ·have D:∀j u,xs[j]?=some u→w.cell? ((⟨g,0,none⟩:Addr).add j)=some u:=d.cells (g:=g) rfl;have M:=run_append_grow (P:=P) w t ty e i z N J Z ⟨g,0,none⟩ n o xs d.1 D a m c b C f (by omega) (by omega) (growslice_fits (by omega) r);have y:=h o (by omega) (Value.ownBlock (.slice (some ⟨g,0,none⟩) n o));exact⟨_,_,M,y.1,y.2,.inr ⟨_,rfl,Nat.le_refl _⟩⟩
theorem zAP {ops:Array Oper}{rest:List Oper}{o:Oper}{a:Act}{Q:Exit→Act→World→Prop}(b:o.guard=none)(s x:Operand)(t:TypeId)
  (k:o.op=.call {callee:=.builtin .append,args:=#[s,x],argTypes:=#[t,t] })
  (e:TypeId) (i:TypeInfo) (z:Value) (size bytes:Nat) (ht:P.underlying t=some (.slice e)) (hi:P.info? e=some i) (hz:i.zero=some z)
  (hsize:i.size=size) (hby:i.bytes=bytes) (hzs:z.cells.size=size) (hsz:0<size)
  (v:Value) (n:Nat) (xs:List Value) (hs:a.eval s=v) (hown:OwnR w e size v n xs)
  (xv:Value) (m:Nat) (news:List Value) (hxv:a.eval x=xv) (hx:zAM w size xv m news) (h1:∀u∈news,u.oneCell'=true)
  (h63:n+m≤maxLen) (hbytes:(n+m)*bytes≤140737488355328)
  (h:∀v' w',OwnR w' e size v' (n+m) (xs++news)→w.grownBy w' v.ownBlock→(v'.ownBlock=v.ownBlock∨∃g,v'.ownBlock=some g∧w.heap.size≤g)→wpList P ops Q rest (a.put o.dst v') w'):wpList P ops Q (o::rest) a w :=
 wpList_plain b fun K j=>by
  obtain⟨v',w',l,c,d,f⟩:=run_app (P:=P) w t o.type e i z size bytes ht hi hz hsize hby hzs hsz v n xs hown xv m news hx h1 h63 hbytes;unfold Oper.wp execOp;simp only[k,resolve,invoke,builtin,Sem.run_bind,Sem.run_pure,Result.andThen_ok,List.map_toArray,List.map_cons,List.map_nil,hs,hxv,l];exact j _ _ (h v' w' c d f)
end
/-! ### Bytes -/
def zAQ (l:Bs):List Value:=l.map fun u=>.int .u8 (u.toNat:Int)
theorem zFG (l:Bs):(zAQ l).length=l.length:=by simp[zAQ]
theorem zBt (l m:Bs):zAQ (l++m)=zAQ l++zAQ m:=by simp[zAQ]
theorem zFg (l:Bs)(k:Nat):zAQ (l.take k)=(zAQ l).take k:=by simp[zAQ,List.map_take]
theorem zAO (l:Bs):∀u∈zAQ l,u.oneCell'=true:=by
 intro u b;obtain⟨x,_,rfl⟩:=List.mem_map.1 b;rfl
def zAY (w:World)(v:Value)(l:Bs):Prop:=zAM w 1 v l.length (zAQ l)
def zAk (w:World)(e:TypeId)(v:Value)(l:Bs):Prop:=OwnR w e 1 v l.length (zAQ l)
theorem zAk.has {w:World}{e:TypeId}{v:Value}{l:Bs}(h:zAk w e v l):zAY w v l:=OwnR.holds h
theorem zAk.keep {w w':World}{e:TypeId}{v:Value}{l:Bs}(h:zAk w e v l)(b:∀k,v.ownBlock=some k→w'.heap[k]?=w.heap[k]?):zAk w' e v l:=OwnR.keep h b
theorem zAY.kit {w:World}{v:Value}{l:Bs}(h:zAY w v l):Lib.HoldsBytes w v l:=by
 obtain⟨_,p,b,rfl,c,f⟩:=h;refine⟨p,b,rfl,fun e=>List.eq_nil_of_length_eq_zero (c e),fun a d i x g=>f a d i _ ?_⟩;simp[zAQ,g]
theorem zAY.of_kit {w:World}{v:Value}{l:Bs}(h:Lib.HoldsBytes w v l):zAY w v l:=by
 obtain⟨p,b,rfl,d,g⟩:=h;refine⟨by simp[zAQ],p,b,rfl,fun e=>by rw[d e];rfl,fun a f i u c=>?_⟩;simp only[zAQ,List.getElem?_map,Option.map_eq_some_iff]at c;obtain⟨x,j,rfl⟩:=c;exact g a f i x j
/-! ### What a step may turn -/
structure Chg (S:Nat→Prop)(w w':World):Prop where
 os:w'.os=w.os
 tape:w'.tape=w.tape
 output:w'.output=w.output
 size:w.heap.size≤w'.heap.size
 block:∀k,k<w.heap.size→¬S k→w'.heap[k]?=w.heap[k]?
section
variable {S T:Nat→Prop} {w w' w'':World}
theorem Chg.refl (S:Nat→Prop)(w:World):Chg S w w:=⟨rfl,rfl,rfl,Nat.le_refl _,fun _ _ _=>rfl⟩
theorem Chg.mono (h:Chg S w w')(c:∀k,k<w.heap.size→S k→T k):Chg T w w':=⟨h.os,h.tape,h.output,h.size,fun k b hn=>h.block k b fun s=>hn (c k b s)⟩
theorem Chg.trans (h:Chg S w w')(k:Chg T w' w'')(c:∀i,i<w.heap.size→T i→S i):Chg S w w'' :=
 ⟨k.os.trans h.os,k.tape.trans h.tape,k.output.trans h.output,Nat.le_trans h.size k.size,fun i b hn=>(k.block i (Nat.lt_of_lt_of_le b h.size) fun t=>hn (c i b t)).trans (h.block i b hn)⟩
theorem Chg.of_below (h:Below w.heap.size w w'):Chg (fun _=>False) w w':=⟨h.os,h.tape,h.output,h.size,fun k b _=>h.block k b⟩
theorem Chg.below (h:Chg S w w'){B:Nat}(d:B≤w.heap.size)(c:∀k,k<B→¬S k):Below B w w':=⟨h.os,h.tape,h.output,h.size,fun k b=>h.block k (by omega) (c k b)⟩
theorem Chg.of_grown {b:Option Nat}(h:w.grownBy w' b):Chg (fun k=>some k=b) w w':=⟨h.os,h.tape,h.output,h.size,fun k c hn=>h.block k c hn⟩
theorem Chg.alloc (w:World)(o:Obj):Chg (fun _=>False) w (w.alloc o):=⟨rfl,rfl,rfl,by simp,fun k b _=>heap_alloc_old w o b⟩
theorem Chg.drew (w:World):Chg (fun _=>False) w w.drew:=⟨rfl,rfl,rfl,Nat.le_refl _,fun _ _ _=>rfl⟩
theorem Chg.setCell (w:World)(a:Addr)(u:Value):Chg (fun k=>k=a.block) w (w.setCell a u):=⟨rfl,rfl,rfl,by simp[World.setCell],fun k _ hn=>Below.heap_setCell _ _ _ _ hn⟩
theorem Chg.cell (h:Chg S w w'){a:Addr}{v:Value}(b:w.cell? a=some v)(hn:¬S a.block):w'.cell? a=some v :=
 (World.cell?_of_block (h.block a.block (World.block_lt_of_cell? w a b) hn)).trans b
end
theorem zDT (a:Addr)(i:Nat):(a.add i).block=a.block:=by unfold Addr.add;split<;>rfl
theorem zAM.chg {w w':World}{S:Nat→Prop}{size:Nat}{v:Value}{n:Nat}{xs:List Value}(h:zAM w size v n xs)(g:Chg S w w')(hS:∀k,v.ownBlock=some k→¬S k):zAM w' size v n xs:=by
 obtain⟨j,p,b,rfl,f,c⟩:=h;refine⟨j,p,b,rfl,f,fun a d i u l=>g.cell (c a d i u l) ?_⟩;rw[zDT];exact hS _ (by rw[d];rfl)
theorem zAM.chg2 {w w':World}{S:Nat→Prop}{size:Nat}{v:Value}{n:Nat}{xs:List Value}(h:zAM w size v n xs)(j:Chg S w w')(hS:∀a u,w.cell? a=some u→v.ownBlock=some a.block→¬S a.block):zAM w' size v n xs:=by
 obtain⟨k,p,c,rfl,g,b⟩:=h;refine⟨k,p,c,rfl,g,fun a d i u f=>j.cell (b a d i u f) (hS _ _ (b a d i u f) ?_)⟩;rw[zDT,d];rfl
theorem no_cell_map {w:World}{b:Nat}{es:Array MapEntry}{c:Nat}(h:w.heap[b]?=some (.map es c)){a:Addr}{u:Value}(d:w.cell? a=some u):a.block≠b:=fun e=>by
 simp[World.cell?,e,h]at d
theorem zAY.chg {w w':World}{S:Nat→Prop}{v:Value}{l:Bs}(h:zAY w v l)(b:Chg S w w')(hS:∀k,v.ownBlock=some k→¬S k):zAY w' v l:=zAM.chg h b hS
theorem zAY.below {w w':World}{v:Value}{l:Bs}(h:zAY w v l)(b:Below w.heap.size w w'):zAY w' v l:=h.chg (Chg.of_below b) fun _ _=>id
theorem zAY.slice {w:World}{v:Value}{l:Bs}(h:zAY w v l):∃p c,v=.slice p l.length c:=by
 obtain⟨_,p,c,e,_⟩:=h;exact⟨p,c,e⟩
theorem zAk.slice {w:World}{e:TypeId}{v:Value}{l:Bs}(h:zAk w e v l):∃p c,v=.slice p l.length c:=h.has.slice
theorem zEQ {w w':World}{b:Option Nat}(h:w.grownBy w' b){k:Nat}{o:Obj}(d:w.heap[k]?=some o)(c:b≠some k):w'.heap[k]?=some o :=
 (h.block k (Array.getElem?_eq_some_iff.1 d).1 fun e=>c e.symm).trans d
theorem zCI (p:Option Addr)(a b c d:Nat):(Value.slice p a b).ownBlock=(Value.slice p c d).ownBlock:=by cases p<;>rfl
theorem zAB {w:World}{b:Nat}{o:Obj}(h:w.heap[b]?=some o):b<w.heap.size:=(Array.getElem?_eq_some_iff.1 h).1
theorem zAG {w:World}{b:Nat}{c:Array Value}{e:TypeId}{d:Nat×Nat}(h:w.heap[b]?=some (.cells c e d)){i:Nat}{v:Value}(f:c[i]?=some v):w.cell? ⟨b,i,none⟩=some v:=by
 simp[World.cell?,h,f]
theorem zAd {w:World}{b:Nat}{c:Value}{l:List Value}{e:TypeId}{d:Nat×Nat}(h:w.heap[b]?=some (.cells (c::l).toArray e d)):w.cell? ⟨b,0,none⟩=some c:=zAG h rfl
theorem zAn {w:World}{b:Nat}{f c:Value}{l:List Value}{e:TypeId}{d:Nat×Nat}(h:w.heap[b]?=some (.cells (f::c::l).toArray e d)):w.cell? ⟨b,1,none⟩=some c:=zAG h rfl
theorem zAo {w:World}{b:Nat}{d f v2:Value}{l:List Value}{e:TypeId}{c:Nat×Nat}(h:w.heap[b]?=some (.cells (d::f::v2::l).toArray e c)):w.cell? ⟨b,2,none⟩=some v2:=zAG h rfl
theorem zBI {w:World}{b:Nat}{f g v2 c:Value}{l:List Value}{e:TypeId}{d:Nat×Nat}(h:w.heap[b]?=some (.cells (f::g::v2::c::l).toArray e d)):w.cell? ⟨b,3,none⟩=some c:=zAG h rfl
theorem cell4 {w:World}{b:Nat}{f g v2 i c:Value}{l:List Value}{e:TypeId}{d:Nat×Nat}(h:w.heap[b]?=some (.cells (f::g::v2::i::c::l).toArray e d)):w.cell? ⟨b,4,none⟩=some c:=zAG h rfl
theorem cell5 {w:World}{b:Nat}{f g v2 i j c:Value}{l:List Value}{e:TypeId}{d:Nat×Nat}(h:w.heap[b]?=some (.cells (f::g::v2::i::j::c::l).toArray e d)):w.cell? ⟨b,5,none⟩=some c:=zAG h rfl
theorem zAE {w:World}{b:Nat}{c:Array Value}{e:TypeId}(h:w.heap[b]?=some (.cells c e (0,0)))(i:Nat):w.frozen? ⟨b,i,none⟩=false:=by
 simp[World.frozen?,h]
theorem zAD {w:World}{b:Nat}{c:Array Value}{e:TypeId}{d:Nat×Nat}(h:w.heap[b]?=some (.cells c e d))(i:Nat)(v:Value):(w.setCell ⟨b,i,none⟩ v).heap[b]?=some (.cells (c.setIfInBounds i v) e d):=by
 simp[World.setCell,Array.getElem?_modify,h]
theorem set_other {w:World}{a:Addr}{k:Nat}(v:Value)(b:k≠a.block):(w.setCell a v).heap[k]?=w.heap[k]?:=Below.heap_setCell _ _ _ _ b
theorem zAJ (w:World)(o:Obj):(w.alloc o).heap[w.heap.size]?=some o:=heap_alloc_new w o
theorem zBA {w:World}{k:Nat}{x:Obj}(o:Obj)(h:w.heap[k]?=some x):(w.alloc o).heap[k]?=some x:=(heap_alloc_old w o (zAB h)).trans h
open Go.Maps (Keyed)
section
variable {α:Type}
def rem (left:Lit→Bool)(L:List (Bs×α)):List (Bs×α):=L.filter fun p=>left (.string p.1)
theorem srt_rem {left:Lit→Bool}{L:List (Bs×α)}(h:Srt L):Srt (rem left L):=h.filter _
theorem rem_start (g:α→DataW Nat)(L:List (Bs×α)):rem (Maps.has (dm g L)) L=L:=by
 refine List.filter_eq_self.2 fun p c=>?_;rw[dm_has];cases b:get p.1 L with
 | none=>exact absurd rfl (zCh.1 b p c)
 | some a=>rfl
theorem rem_end {left:Lit→Bool}(h:∀kl,left kl=false)(L:List (Bs×α)):rem left L=[]:=by
 refine List.filter_eq_nil_iff.2 fun p _=>?_;rw[h];simp
theorem get_rem {left:Lit→Bool}{L:List (Bs×α)}(h:Srt L){n:Bs}{a:α}(b:get n L=some a)(c:left (.string n)=true):get n (rem left L)=some a :=
 zDN (srt_rem h) (List.mem_filter.2 ⟨zBv b,c⟩)
theorem rem_step (left:Lit→Bool)(n:Bs)(L:List (Bs×α)):rem (fun z=>left z&& !z.sameKey (.string n)) L=del n (rem left L):=by
 simp only[rem,del,List.filter_filter];refine List.filter_congr fun p _=>?_;rw[sk];exact Bool.and_comm _ _
theorem rem_sum {f:α→Nat}{left:Lit→Bool}{L:List (Bs×α)}(h:Srt L){n:Bs}{a:α}(b:get n L=some a)(c:left (.string n)=true) :
  zBM f (rem left L)=f a+zBM f (rem (fun z=>left z&& !z.sameKey (.string n)) L):=by
 rw[rem_step];exact zC0 (srt_rem h) (get_rem h b c)
end
theorem zEh {P:Program}{k:TypeId}(f:P.underlying k=some .string){b:Value}{c:Lit}(h:keyOf P k b=some c):∃s:ByteArray,b=.string s∧c=.string s.data.toList∧s.size≤maxLen:=by
 cases b<;>simp[keyOf,f,mapKey]at h
 obtain⟨d,rfl⟩:=h;exact⟨_,rfl,rfl,d⟩
section
variable {α:Type} {P:Program} (w:World) {ops:Array Oper} {rest:List Oper} {o:Oper} {a:Act} {Q:Exit→Act→World→Prop}
theorem zFE (O:o.guard=none)(I:Operand)(E:o.op=Op.next I false)(k:TypeId)(M:P.underlying k=some .string)(K:Keyed P k)
  (g:α→Nat) (L:List (Bs×α)) (b r n:Nat) (left:Lit→Bool) (f:Nat) (B:a.eval I=.pointer (some ⟨r,0,none⟩)) (h:w.ranges P k ptrR b r n (dm (fun x=>.held (g x)) L) left f)
  (j:(∀J,left J=false)→wpList P ops Q rest (a.put o.dst (.tuple #[.bool false])) w)
  (l:∀(s:ByteArray) (x:α) (w':World) (c:Nat),get s.data.toList L=some x→left (.string s.data.toList)=true→s.size≤maxLen →
   w'.ranges P k ptrR b r n (dm (fun x=>.held (g x)) L) (fun z=>left z&& !z.sameKey (.string s.data.toList)) c→c<f→w.grownBy w' (some r)→w'.heap.size=w.heap.size →
   (Instr.entry (.pointer (some ⟨r,0,none⟩))).run P w'=.ok (.tuple #[.string s,.pointer (some ⟨g x,0,none⟩)]) w' →
   wpList P ops Q rest (a.put o.dst (.tuple #[.bool true,.string s,.pointer (some ⟨g x,0,none⟩)])) w') :
  wpList P ops Q (o::rest) a w :=
 wpList_next_ranges w O I E k K ptrR (fun s:ByteArray=>.string s) (fun v:Value=>v) (fun T J d=>by obtain⟨s,rfl,_⟩:=zEh M d;exact⟨s,rfl⟩) (fun v _ _=>⟨v,rfl⟩)
  b r n _ left f B h (fun _ C=>j C) (fun s v J y w' c d C S q F D A G t=>by
   obtain⟨U,i,rfl,R⟩:=zEh M d;simp at i;subst i;have p:∀zd,((get s.data.toList L).map fun x=>(DataW.held (g x):DataW Nat)).getD zd=y.1:=fun zd=>by rw[←dm_atKey];exact q zd
   cases m:get s.data.toList L with
   | none =>
    rw[m]at p;have i:=p .nil;have N:=p (.held 0);rw[←N]at i;cases i
   | some x =>
    rw[m]at p;have i:=(p .nil).symm;have H:=ptrR_inv S i;subst H;exact l s x w' c m C R F D A G t)
theorem zE9 {t k e:TypeId}{b n:Nat}(K:Keyed P k)(i:P.underlying k=some .string)(l:P.underlying t=some (.map k e))(m:(zeroValue e).run P w=.ok (.pointer none) w)(g:α→Nat)(L:List (Bs×α))
  (h:w.ownsMap P k ptrR b n (dm (fun x=>.held (g x)) L)) (s:ByteArray) (j:s.size≤maxLen) :
  (Instr.lookup t (.map (some b)) (.string s) false).run P w=.ok (match get s.data.toList L with|some x=>.pointer (some ⟨g x,0,none⟩)|none=>.pointer none) w:=by
 obtain⟨v,ps,f,c⟩:=h.lookup K l m (z:=.pointer none) (zd:=.nil) (zp:=[]) rfl (WideMaps.keyOf_string_mk i j);rw[f];rw[dm_atKey]at c;cases d:get s.data.toList L with
 | none =>
  rw[d]at c;simp only[Option.map_none,Option.getD_none]at c;unfold ptrR at c
  split at c<;>simp at c
  rfl
 | some x =>
  rw[d]at c;simp only[Option.map_some,Option.getD_some]at c;rw[ptrR_inv c rfl]
theorem zB9 {t k e:TypeId}{b n:Nat}(K:Keyed P k)(d:P.underlying k=some .string)(i:P.underlying t=some (.map k e))(j:(zeroValue e).run P w=.ok (.pointer none) w)(g:α→Nat){L:List (Bs×α)}
  (h:w.ownsMap P k ptrR b n (dm (fun x=>.held (g x)) L)) {s:ByteArray} (f:s.size≤maxLen) {x:α} (c:get s.data.toList L=some x) :
  (Instr.lookup t (.map (some b)) (.string s) false).run P w=.ok (.pointer (some ⟨g x,0,none⟩)) w:=by
 rw[zE9 w K d i j g L h s f,c]
theorem run_look_any {t k e:TypeId}{b n:Nat}(K:Keyed P k)(c:P.underlying k=some .string)(f:P.underlying t=some (.map k e))(i:(zeroValue e).run P w=.ok (.pointer none) w)(g:α→Nat){L:List (Bs×α)}
  (h:w.ownsMap P k ptrR b n (dm (fun x=>.held (g x)) L)) {s:ByteArray} (d:s.size≤maxLen) :
  ∃fv,(Instr.lookup t (.map (some b)) (.string s) false).run P w=.ok (.pointer fv) w:=by
 rw[zE9 w K c f i g L h s d];cases get s.data.toList L with
 | none=>exact⟨none,rfl⟩
 | some x=>exact⟨_,rfl⟩
theorem zBq {t k e:TypeId}{b n:Nat}(K:Keyed P k)(d:P.underlying k=some .string)(i:P.underlying t=some (.map k e))(j:(zeroValue e).run P w=.ok (.pointer none) w)(g:α→Nat){L:List (Bs×α)}
  (h:w.ownsMap P k ptrR b n (dm (fun x=>.held (g x)) L)) {s:ByteArray} (f:s.size≤maxLen) (c:get s.data.toList L=none) :
  (Instr.lookup t (.map (some b)) (.string s) false).run P w=.ok (.pointer none) w:=by
 rw[zE9 w K d i j g L h s f,c]
end
/-! ### A region that draws its order,whose operations read or call what keeps a property of the world -/
theorem classOf (S:World→Prop){w:World}(h:S w):∃(ι:Type) (F:ι→World),Nonempty ι∧(∃n,w=F n)∧(∀n,S (F n))∧∀W,S W→∃n,W=F n :=
 ⟨{W:World // S W},Subtype.val,⟨⟨w,h⟩⟩,⟨⟨w,h⟩,rfl⟩,fun n=>n.2,fun W h=>⟨⟨W,h⟩,rfl⟩⟩
theorem zCl {P:Program}{ι:Type}(F:ι→World){g:Nat}{Q:Exit→Act→World→Prop}{a:Act}{w:World}{l:List Oper}(f:P.follows .mixedOrders=true)(d:Region.lexB .any l.toArray=true)(c:∃n,w.drew=F n)
  (h:wpQuiet P l.toArray (fun w'=>∃n,w'=F n) (fun b=>∀w',(∃n,w'=F n)→Q .normal b w') l a):(Code.region g l.toArray true).wp P Q a w :=
 wp_region_quiet (C:=fun w'=>∃n,w'=F n) f d c (by simpa using h)
end Go.Sat
namespace Go.Sat
open Go
section
variable {P:Program} {l:List Oper} {Q:Exit→Act→World→Prop} {md:Region.Mode} {S:World→Prop} {fuel:Nat} {listed:Array Bool} {a:Act} {w:World}
theorem zBx {i:Nat}{o:Oper}{r:List Oper}(h:l.drop i=o::r):l.toArray[i]?=some o:=by
 have:=List.getElem?_drop (xs:=l) (i:=i) (j:=0);rw[h]at this;simpa using this.symm
theorem ord_start (S:World→Prop){c n:Nat}(b:P.follows .mixedOrders=true)(hn:l.length=n)(hS:S w.drew)(h:S w.drew→wpAnyH P .any l.toArray Q S n (Array.replicate n false) a w.drew):(Code.region c l.toArray true).wp P Q a w:=by
 subst hn;exact wp_region_held_drew b hS (by simpa using h)
theorem ord_skip (i:Nat){o:Oper}{r:List Oper}(d:l.drop i=o::r)(j:Region.noSelect l.toArray=true)(f:Region.free md l.toArray listed i=true)(g:(Region.ready md l.toArray listed).contains i=true)
  (b:∀c a w,Q (.panic c) (a.put o.dst undef) w→Q (.panic c) a w) (k:Region.wanted o (yielded l.toArray a.tmps)=false) (hS:S w)
  (h:wpAnyH P md l.toArray Q S fuel (listed.setIfInBounds i true) (a.put o.dst undef) w):wpAnyH P md l.toArray Q S (fuel+1) listed a w :=
 wpAnyH_take (zBx d) j f g b (.inr ⟨k,rfl⟩) hS h
theorem zBi (i:Nat){o:Oper}{r:List Oper}{v:Value}(d:l.drop i=o::r)(j:Region.noSelect l.toArray=true)(f:Region.free md l.toArray listed i=true)(g:(Region.ready md l.toArray listed).contains i=true)
  (b:∀c a w,Q (.panic c) (a.put o.dst v) w→Q (.panic c) a w) (k:Region.wanted o (yielded l.toArray a.tmps)=true) (hS:S w) (m:∀w,S w→(execOp a.eval o).run P w=.ok (.value v) w)
  (h:wpAnyH P md l.toArray Q S fuel (listed.setIfInBounds i true) (a.put o.dst v) w):wpAnyH P md l.toArray Q S (fuel+1) listed a w :=
 wpAnyH_take (zBx d) j f g b (.inl ⟨k,m⟩) hS h
theorem ord_one (i:Nat){o:Oper}{r:List Oper}(c:l.drop i=o::r)(d:Region.ready md l.toArray listed=[i])(f:Region.wanted o (yielded l.toArray a.tmps)=true)
  (h:∀K:Act→World→Prop,Shut (∀a w,S w→(S w→wpAnyH P md l.toArray Q S fuel (listed.setIfInBounds i true) a w)→K a w)→Oper.wp P o a w K Q):wpAnyH P md l.toArray Q S (fuel+1) listed a w :=
 wpAnyH_ready d (by simp) (AllReadyH.cons (zBx c) (fun K b=>by rw[if_pos f];exact h K b) AllReadyH.nil)
theorem zAq {o:Oper}{K:Act→World→Prop}(s x:Operand)(t:TypeId)
  (f:o.op=.call {callee:=.builtin .append,args:=#[s,x],argTypes:=#[t,t] })
  (e:TypeId) (i:TypeInfo) (z:Value) (size bytes:Nat) (ht:P.underlying t=some (.slice e)) (hi:P.info? e=some i) (hz:i.zero=some z)
  (hsize:i.size=size) (hby:i.bytes=bytes) (hzs:z.cells.size=size) (hsz:0<size)
  (v:Value) (n:Nat) (xs:List Value) (hs:a.eval s=v) (hown:OwnR w e size v n xs)
  (xv:Value) (m:Nat) (news:List Value) (hxv:a.eval x=xv) (hx:zAM w size xv m news) (h1:∀u∈news,u.oneCell'=true)
  (h63:n+m≤maxLen) (hbytes:(n+m)*bytes≤140737488355328)
  (h:∀v' w',OwnR w' e size v' (n+m) (xs++news)→w.grownBy w' v.ownBlock→(v'.ownBlock=v.ownBlock∨∃g,v'.ownBlock=some g∧w.heap.size≤g)→K (a.put o.dst v') w'):Oper.wp P o a w K Q:=by
 obtain⟨v',w',j,b,c,d⟩:=run_app (P:=P) w t o.type e i z size bytes ht hi hz hsize hby hzs hsz v n xs hown xv m news hx h1 h63 hbytes;unfold Oper.wp execOp;simp only[f,resolve,invoke,builtin,Sem.run_bind,Sem.run_pure,Result.andThen_ok,List.map_toArray,List.map_cons,List.map_nil,hs,hxv,j];exact h v' w' b c d
end
def calm (xs:List Nat)(listed:Array Bool):Bool:=xs.all fun x=>!listed.getD x true
theorem calm_set {xs:List Nat}{listed:Array Bool}{i:Nat}(h:i∉xs):calm xs (listed.setIfInBounds i true)=calm xs listed:=by
 unfold calm;rw[Bool.eq_iff_iff,List.all_eq_true,List.all_eq_true];have e:∀x∈xs,(listed.setIfInBounds i true).getD x true=listed.getD x true:=fun x b=>getD_set_ne true fun e=>h (e▸b);exact⟨fun H x b=>by rw[←e x b];exact H x b,fun H x b=>by rw[e x b];exact H x b⟩
def waits (md:Region.Mode)(ops:Array Oper)(xs:List Nat)(i:Nat):Bool :=
 xs.all fun x=>match ops[x]? with
  | some o=>o.after.any fun e=>Region.binds md e&&e.on==i
  | none=>true
section
variable {P:Program} {ops:Array Oper} {Q:Exit→Act→World→Prop} {md:Region.Mode} {xs:List Nat} {S:World→Prop}
def zBs (P:Program)(md:Region.Mode)(ops:Array Oper)(Q:Exit→Act→World→Prop)(xs:List Nat)(S:World→Prop):Nat→Array Bool→Act→World→Prop
 | 0,listed,a,w=>Region.ready md ops listed=[]∧Q .normal a w
 | n+1,listed,a,w=>(Region.ready md ops listed=[]→Q .normal a w) ∧
   ∀i∈Region.ready md ops listed,wpOp P ops Q i (fun b v=>(calm xs (listed.setIfInBounds i true)=true→S v)∧zBs P md ops Q xs S n (listed.setIfInBounds i true) b v) a w
theorem any_of_G:∀(n:Nat) (listed:Array Bool) (a:Act) (w:World),zBs P md ops Q xs S n listed a w→wpAny P md ops Q n listed a w
 | 0,_,_,_,h=>h
 | n+1,_,_,_,h=>⟨h.1,fun i d=>wpOp_mono (fun b v c=>any_of_G n _ b v c.2) (h.2 i d)⟩
theorem G_first {i:Nat}{B:Oper}{v:Value}{T:World→Prop}(K:ops[i]?=some B)(q:∀(j:Nat) (o:Oper) cs b,ops[j]?=some o→o.op≠.select cs b)
  (hQ:∀c a w,Q (.panic c) (a.put B.dst v) w→Q (.panic c) a w) (A:i∉xs) (hT:(∀w,T w)∨(waits md ops xs i=true∧∀w,S w→T w)) :
  ∀(n:Nat) (listed:Array Bool) (a:Act) (w:World),
   (∀j C,ops[j]?=some C→j≠i→listed.getD j true=false→(∀e∈C.after,Region.binds md e=true→e.on≠i)→B.apart ops C=true) →
   i∈Region.ready md ops listed→YieldsIf P ops T B v a→T w→(calm xs listed=true→S w)→((∀w,T w)∨calm xs listed=true) →
   zBs P md ops Q xs S n (listed.setIfInBounds i true) (a.put B.dst v) w→zBs P md ops Q xs S (n+1) listed a w:=by
 intro n
 induction n with
 | zero =>
  intro listed a w _ N V z y _ H;refine⟨fun e=>absurd (e▸N) (by simp),fun j U=>?_⟩
  by_cases e:j=i
  ·subst e;exact V.wpOp K z ⟨fun I=>y (by rwa[calm_set A]at I),H⟩
  ·have E:=ready_mono U e;rw[H.1]at E;cases E
 | succ n ih =>
  intro listed a w f N V z y X H;refine⟨fun e=>absurd (e▸N) (by simp),fun j U=>?_⟩
  by_cases e:j=i
  ·subst e;exact V.wpOp K z ⟨fun I=>y (by rwa[calm_set A]at I),H⟩
  ·have r:=H.2 j (ready_mono U e);obtain⟨m,C,l,F⟩:=mem_ready.1 U;have p:∀e∈C.after,Region.binds md e=true→e.on≠i:=fun e Y G Z=>by
    have r:=F e Y G;have E:=(mem_ready.1 N).1;rw[Z]at r;rcases Nat.lt_or_ge i listed.size with d|d
    ·simp[d]at E r;rw[E]at r;cases r
    ·simp[Array.getElem?_eq_none d]at r
   have L:((∀w,T w)∨(j∉xs∧∀w,S w→T w)):=by
    rcases hT with h|⟨h,s⟩
    ·exact .inl h
    ·refine .inr ⟨fun hx=>?_,s⟩;have D:=List.all_eq_true.1 h j hx;rw[l]at D;obtain⟨e,Y,G⟩:=Array.any_eq_true'.1 D;rw[Bool.and_eq_true]at G;exact p e Y G.1 (by simpa using G.2)
   have h2:=wpOp_putIf l (f j C l e m p) (fun cs b=>q i B cs b K) (fun cs b=>q j C cs b l) hQ V r;have g:∀k R,ops[k]?=some R→k≠i→(listed.setIfInBounds j true).getD k true=false →
     (∀e∈R.after,Region.binds md e=true→e.on≠i)→B.apart ops R=true:=fun k R hk aa O ab=>by
    refine f k R hk aa ?_ ab
    by_cases J:j=k
    ·subst J;exact m
    ·rw[getD_set_ne true J]at O;exact O
   have W:calm xs ((listed.setIfInBounds i true).setIfInBounds j true)=calm xs (listed.setIfInBounds j true):=by
    rw[Array.setIfInBounds_comm _ _ (Ne.symm e),calm_set A]
   refine wpOp_mono (fun b u D=>?_) h2;have t:calm xs (listed.setIfInBounds j true)=true→S u:=fun I=>D.2.1 (by rw[W];exact I);have M:(∀w,T w)∨calm xs (listed.setIfInBounds j true)=true:=by
    rcases L with h|⟨h,-⟩
    ·exact .inl h
    ·rcases X with d|d
     ·exact .inl d
     ·exact .inr (by rw[calm_set h];exact d)
   refine⟨t,ih (listed.setIfInBounds j true) b u g (ready_mono N (Ne.symm e)) D.1 ?_ t M ?_⟩
   ·rcases L with h|⟨-,s⟩
    ·exact h u
    ·rcases M with d|d
     ·exact d u
     ·exact s u (t d)
   ·rw[Array.setIfInBounds_comm _ _ e];exact D.2.2
variable {l:List Oper} {fuel:Nat} {listed:Array Bool} {a:Act} {w:World}
theorem zDX (xs:List Nat)(S:World→Prop){c n:Nat}(b:P.follows .mixedOrders=true)(hn:l.length=n)(hS:S w.drew)(h:S w.drew→zBs P .any l.toArray Q xs S n (Array.replicate n false) a w.drew):(Code.region c l.toArray true).wp P Q a w:=by
 subst hn;exact wp_region_any b (any_of_G _ _ _ _ (by have:=h hS;simpa using this))
theorem zEz (i:Nat){o:Oper}{r:List Oper}{v:Value}(d:l.drop i=o::r)(k:Region.noSelect l.toArray=true)(g:Region.free md l.toArray listed i=true)(j:(Region.ready md l.toArray listed).contains i=true)
  (b:(!xs.contains i&&waits md l.toArray xs i&&calm xs listed)=true)
  (f:∀c a w,Q (.panic c) (a.put o.dst v) w→Q (.panic c) a w) (m:Region.wanted o (yielded l.toArray a.tmps)=true) (hS:S w) (n:∀w,S w→(execOp a.eval o).run P w=.ok (.value v) w)
  (h:zBs P md l.toArray Q xs S fuel (listed.setIfInBounds i true) (a.put o.dst v) w):zBs P md l.toArray Q xs S (fuel+1) listed a w:=by
 simp only[Bool.and_eq_true,Bool.not_eq_true',List.contains_eq_mem,decide_eq_false_iff_not]at b;exact G_first (T:=S) (zBx d) (Region.noSelect_spec k) f b.1.1 (.inr ⟨b.1.2,fun _ h=>h⟩) fuel listed a w (Region.free_spec (zBx d) g) (by simpa using j) (.inl ⟨m,n⟩) hS (fun _=>hS) (.inr b.2) h
theorem g_pure (i:Nat){o:Oper}{r:List Oper}{v:Value}(f:l.drop i=o::r)(m:Region.noSelect l.toArray=true)(j:Region.free md l.toArray listed i=true)(k:(Region.ready md l.toArray listed).contains i=true)
  (b:(!xs.contains i&& !calm xs listed)=true)
  (g:∀c a w,Q (.panic c) (a.put o.dst v) w→Q (.panic c) a w) (n:Region.wanted o (yielded l.toArray a.tmps)=true) (p:∀w,(execOp a.eval o).run P w=.ok (.value v) w)
  (h:zBs P md l.toArray Q xs S fuel (listed.setIfInBounds i true) (a.put o.dst v) w):zBs P md l.toArray Q xs S (fuel+1) listed a w:=by
 simp only[Bool.and_eq_true,Bool.not_eq_true',List.contains_eq_mem,decide_eq_false_iff_not]at b;exact G_first (T:=fun _=>True) (zBx f) (Region.noSelect_spec m) g b.1 (.inl fun _=>trivial) fuel listed a w (Region.free_spec (zBx f) j) (by simpa using k) (.inl ⟨n,fun w _=>p w⟩) trivial (fun d=>by rw[b.2]at d;cases d) (.inl fun _=>trivial) h
theorem g_pure0 (i:Nat){o:Oper}{r:List Oper}{v:Value}(b:l.drop i=o::r)(k:Region.noSelect l.toArray=true)(g:Region.free md l.toArray listed i=true)(j:(Region.ready md l.toArray listed).contains i=true)
  (d:(!xs.contains i)=true)
  (f:∀c a w,Q (.panic c) (a.put o.dst v) w→Q (.panic c) a w) (m:Region.wanted o (yielded l.toArray a.tmps)=true) (hS:S w) (n:∀w,(execOp a.eval o).run P w=.ok (.value v) w)
  (h:zBs P md l.toArray Q xs S fuel (listed.setIfInBounds i true) (a.put o.dst v) w):zBs P md l.toArray Q xs S (fuel+1) listed a w:=by
 simp only[Bool.not_eq_true',List.contains_eq_mem,decide_eq_false_iff_not]at d;exact G_first (T:=fun _=>True) (zBx b) (Region.noSelect_spec k) f d (.inl fun _=>trivial) fuel listed a w (Region.free_spec (zBx b) g) (by simpa using j) (.inl ⟨m,fun w _=>n w⟩) trivial (fun _=>hS) (.inl fun _=>trivial) h
theorem g_skip (i:Nat){o:Oper}{r:List Oper}(b:l.drop i=o::r)(k:Region.noSelect l.toArray=true)(g:Region.free md l.toArray listed i=true)(j:(Region.ready md l.toArray listed).contains i=true)
  (d:(!xs.contains i)=true)
  (f:∀c a w,Q (.panic c) (a.put o.dst undef) w→Q (.panic c) a w) (m:Region.wanted o (yielded l.toArray a.tmps)=false) (hS:S w)
  (h:zBs P md l.toArray Q xs S fuel (listed.setIfInBounds i true) (a.put o.dst undef) w):zBs P md l.toArray Q xs S (fuel+1) listed a w:=by
 simp only[Bool.not_eq_true',List.contains_eq_mem,decide_eq_false_iff_not]at d;exact G_first (T:=fun _=>True) (zBx b) (Region.noSelect_spec k) f d (.inl fun _=>trivial) fuel listed a w (Region.free_spec (zBx b) g) (by simpa using j) (.inr ⟨m,rfl⟩) trivial (fun _=>hS) (.inl fun _=>trivial) h
theorem zEP (i:Nat){o:Oper}{r:List Oper}(k:l.drop i=o::r)(d:Region.ready md l.toArray listed=[i])(m:Region.wanted o (yielded l.toArray a.tmps)=true)
  (h:∀K:Act→World→Prop,Shut (∀a w,S w→(S w→zBs P md l.toArray Q xs S fuel (listed.setIfInBounds i true) a w)→K a w)→Oper.wp P o a w K Q):zBs P md l.toArray Q xs S (fuel+1) listed a w:=by
 refine⟨fun e=>(by rw[d]at e;cases e),fun j c=>?_⟩;rw[d]at c;obtain rfl:j=i:=by simpa using c
 exact wpOp_step (zBx k) fun K f=>by
  rw[if_pos m];exact h K fun b v hS g=>f b v ⟨fun _=>hS,g hS⟩
theorem g_end (i:Nat){o:Oper}{r:List Oper}(m:l.drop i=o::r)(f:Region.ready md l.toArray listed=[i])(n:Region.wanted o (yielded l.toArray a.tmps)=true)(p:calm xs (listed.setIfInBounds i true)=false)
  (h:∀K:Act→World→Prop,Shut (∀a w,zBs P md l.toArray Q xs S fuel (listed.setIfInBounds i true) a w→K a w)→Oper.wp P o a w K Q):zBs P md l.toArray Q xs S (fuel+1) listed a w:=by
 refine⟨fun e=>(by rw[f]at e;cases e),fun j d=>?_⟩;rw[f]at d;obtain rfl:j=i:=by simpa using d
 exact wpOp_step (zBx m) fun K g=>by
  rw[if_pos n];exact h K fun b v k=>g b v ⟨fun c=>(by rw[p]at c;cases c),k⟩
theorem zEy (b:Region.ready md l.toArray listed=[])(h:Q .normal a w):∀fuel,zBs P md l.toArray Q xs S fuel listed a w
 | 0=>⟨b,h⟩
 | _+1=>⟨fun _=>h,by rw[b];simp⟩
end
section
variable {P:Program} {l:List Oper} {Q:Exit→Act→World→Prop} {md:Region.Mode} {S:World→Prop} {fuel:Nat} {listed:Array Bool} {a:Act} {w:World}
theorem otk (i:Nat){o:Oper}{r:List Oper}{v:Value}(d:l.drop i=o::r)(h:wpAnyH P md l.toArray Q S fuel (listed.setIfInBounds i true) (a.put o.dst v) w)
  (f:Region.noSelect l.toArray=true:=by kernel_rfl) (hf:Region.free md l.toArray listed i=true:=by kernel_rfl) (hr:(Region.ready md l.toArray listed).contains i=true:=by kernel_rfl)
  (hQ:∀c a w,Q (.panic c) (a.put o.dst v) w→Q (.panic c) a w:=by exact fun _ _ _ h=>h) (hw:Region.wanted o (yielded l.toArray a.tmps)=true:=by rfl) (hS:S w:=by assumption)
  (hy:∀w,S w→(execOp a.eval o).run P w=.ok (.value v) w:=by(intro w b;(try dsimp only at b);go_simp;try with_reducible rfl)):wpAnyH P md l.toArray Q S (fuel+1) listed a w :=
 zBi i d f hf hr hQ hw hS hy h
theorem otc (i:Nat){o:Oper}{r:List Oper}{v:Value}(b:l.drop i=o::r)(f:∀w,S w→(execOp a.eval o).run P w=.ok (.value v) w)(h:wpAnyH P md l.toArray Q S fuel (listed.setIfInBounds i true) (a.put o.dst v) w)
  (d:Region.noSelect l.toArray=true:=by kernel_rfl) (hf:Region.free md l.toArray listed i=true:=by kernel_rfl) (hr:(Region.ready md l.toArray listed).contains i=true:=by kernel_rfl)
  (hQ:∀c a w,Q (.panic c) (a.put o.dst v) w→Q (.panic c) a w:=by exact fun _ _ _ h=>h) (hw:Region.wanted o (yielded l.toArray a.tmps)=true:=by rfl) (hS:S w:=by assumption):wpAnyH P md l.toArray Q S (fuel+1) listed a w :=
 zBi i b d hf hr hQ hw hS f h
theorem osk (i:Nat){o:Oper}{r:List Oper}(b:l.drop i=o::r)(h:wpAnyH P md l.toArray Q S fuel (listed.setIfInBounds i true) (a.put o.dst undef) w)
  (d:Region.noSelect l.toArray=true:=by kernel_rfl) (hf:Region.free md l.toArray listed i=true:=by kernel_rfl) (hr:(Region.ready md l.toArray listed).contains i=true:=by kernel_rfl)
  (hQ:∀c a w,Q (.panic c) (a.put o.dst undef) w→Q (.panic c) a w:=by exact fun _ _ _ h=>h) (hw:Region.wanted o (yielded l.toArray a.tmps)=false:=by rfl) (hS:S w:=by assumption):wpAnyH P md l.toArray Q S (fuel+1) listed a w :=
 ord_skip i b d hf hr hQ hw hS h
theorem uA {α:Type}{l:List α}{i:Nat}{a:α}:l.toArray.setIfInBounds i a=(l.set i a).toArray:=List.setIfInBounds_toArray _ _ _
theorem uB {α:Type}{x:α}{xs:List α}{a:α}:(x::xs).set 0 a=a::xs:=List.set_cons_zero
theorem uC {α:Type}{x:α}{xs:List α}{i:Nat}{a:α}:(x::xs).set (i+1) a=x::xs.set i a:=List.set_cons_succ
theorem uZ:(∀(a:Act) (v:Value),a.put none v=a)∧(∀(a:Act) (d:Nat) (v:Value),a.put (some d) v={a with tmps:=a.tmps.setIfInBounds d v})∧(∀{α:Type} (l:List α) (i:Nat) (a:α),l.toArray.setIfInBounds i a=(l.set i a).toArray)∧(∀{α:Type} (x:α) (xs:List α) (a:α),(x::xs).set 0 a=a::xs)∧∀{α:Type} (x:α) (xs:List α) (i:Nat) (a:α),(x::xs).set (i+1) a=x::xs.set i a:=⟨fun _ _=>rfl,fun _ _ _=>rfl,fun _ _ _=>uA,fun _ _ _=>uB,fun _ _ _ _=>uC⟩
theorem oon (i:Nat){o:Oper}{r:List Oper}(b:l.drop i=o::r)(h:∀K:Act→World→Prop,Shut (∀a w,S w→(S w→wpAnyH P md l.toArray Q S fuel (listed.setIfInBounds i true) a w)→K a w)→Oper.wp P o a w K Q)
  (c:Region.ready md l.toArray listed=[i]:=by kernel_rfl) (hw:Region.wanted o (yielded l.toArray a.tmps)=true:=by rfl):wpAnyH P md l.toArray Q S (fuel+1) listed a w:=ord_one i b c hw h
theorem ost (S:World→Prop){c:Nat}(n:Nat)(hS:S w.drew)(h:S w.drew→wpAnyH P .any l.toArray Q S n (Array.replicate n false) a w.drew)(b:P.follows .mixedOrders=true:=by kernel_rfl)(hn:l.length=n:=by rfl):(Code.region c l.toArray true).wp P Q a w:=ord_start S b hn hS h
theorem odn {ops:Array Oper}(h:Q .normal a w)(b:Region.ready md ops listed=[]:=by kernel_rfl):wpAnyH P md ops Q S fuel listed a w:=wpAnyH_done b h _
theorem gtk {xs:List Nat}(i:Nat){o:Oper}{r:List Oper}{v:Value}(d:l.drop i=o::r)(h:zBs P md l.toArray Q xs S fuel (listed.setIfInBounds i true) (a.put o.dst v) w)
  (f:Region.noSelect l.toArray=true:=by kernel_rfl) (hf:Region.free md l.toArray listed i=true:=by kernel_rfl) (hr:(Region.ready md l.toArray listed).contains i=true:=by kernel_rfl)
  (hx:(!xs.contains i&&waits md l.toArray xs i&&calm xs listed)=true:=by kernel_rfl) (hQ:∀c a w,Q (.panic c) (a.put o.dst v) w→Q (.panic c) a w:=by exact fun _ _ _ h=>h) (hw:Region.wanted o (yielded l.toArray a.tmps)=true:=by rfl) (hS:S w:=by assumption)
  (hy:∀w,S w→(execOp a.eval o).run P w=.ok (.value v) w:=by(intro w b;(try dsimp only at b);go_simp;try with_reducible rfl)):zBs P md l.toArray Q xs S (fuel+1) listed a w :=
 zEz i d f hf hr hx hQ hw hS hy h
theorem gpu {xs:List Nat}(i:Nat){o:Oper}{r:List Oper}{v:Value}(b:l.drop i=o::r)(h:zBs P md l.toArray Q xs S fuel (listed.setIfInBounds i true) (a.put o.dst v) w)
  (d:Region.noSelect l.toArray=true:=by kernel_rfl) (hf:Region.free md l.toArray listed i=true:=by kernel_rfl) (hr:(Region.ready md l.toArray listed).contains i=true:=by kernel_rfl)
  (hx:(!xs.contains i)=true:=by kernel_rfl) (hQ:∀c a w,Q (.panic c) (a.put o.dst v) w→Q (.panic c) a w:=by exact fun _ _ _ h=>h) (hw:Region.wanted o (yielded l.toArray a.tmps)=true:=by rfl) (hS:S w:=by assumption)
  (hy:∀w,(execOp a.eval o).run P w=.ok (.value v) w:=by(intro w;go_simp;try with_reducible rfl)):zBs P md l.toArray Q xs S (fuel+1) listed a w :=
 g_pure0 i b d hf hr hx hQ hw hS hy h
def wpPlan (P:Program)(md:Region.Mode)(l:List Oper)(Q:Exit→Act→World→Prop)(S:World→Prop)(fuel:Nat)(listed:Array Bool)(a:Act)(w:World)(_:List Nat):Prop:=wpAnyH P md l.toArray Q S fuel listed a w
theorem Pl (b:List Nat)(h:wpPlan P md l Q S fuel listed a w b):wpAnyH P md l.toArray Q S fuel listed a w:=h
theorem Pn (h:wpAnyH P md l.toArray Q S fuel listed a w):wpPlan P md l Q S fuel listed a w []:=h
theorem Pc {i:Nat}{d:List Nat}{o:Oper}{r:List Oper}{v:Value}(f:l.drop i=o::r)(h:wpPlan P md l Q S fuel (listed.setIfInBounds i true) (a.put o.dst v) w d)
  (g:Region.noSelect l.toArray=true:=by kernel_rfl) (hf:Region.free md l.toArray listed i=true:=by kernel_rfl) (hr:(Region.ready md l.toArray listed).contains i=true:=by kernel_rfl)
  (hQ:∀c a w,Q (.panic c) (a.put o.dst v) w→Q (.panic c) a w:=by exact fun _ _ _ h=>h) (hw:Region.wanted o (yielded l.toArray a.tmps)=true:=by rfl) (hS:S w:=by first|assumption|trivial)
  (hy:∀w,S w→(execOp a.eval o).run P w=.ok (.value v) w:=by(intro w b;(try dsimp only at b);go_simp;first|done|with_reducible rfl|(rw[if_neg (by omega)];try with_reducible rfl))):wpPlan P md l Q S (fuel+1) listed a w (i::d) :=
 zBi i f g hf hr hQ hw hS hy h
def zDt (P:Program)(md:Region.Mode)(l:List Oper)(Q:Exit→Act→World→Prop)(xs:List Nat)(S:World→Prop)(fuel:Nat)(listed:Array Bool)(a:Act)(w:World)(_:List Nat):Prop:=zBs P md l.toArray Q xs S fuel listed a w
theorem Gl {xs:List Nat}(b:List Nat)(h:zDt P md l Q xs S fuel listed a w b):zBs P md l.toArray Q xs S fuel listed a w:=h
theorem Gn {xs:List Nat}(h:zBs P md l.toArray Q xs S fuel listed a w):zDt P md l Q xs S fuel listed a w []:=h
theorem Gc {xs:List Nat}{i:Nat}{d:List Nat}{o:Oper}{r:List Oper}{v:Value}(f:l.drop i=o::r)(h:zDt P md l Q xs S fuel (listed.setIfInBounds i true) (a.put o.dst v) w d)
  (g:Region.noSelect l.toArray=true:=by kernel_rfl) (hf:Region.free md l.toArray listed i=true:=by kernel_rfl) (hr:(Region.ready md l.toArray listed).contains i=true:=by kernel_rfl)
  (hx:(!xs.contains i&&waits md l.toArray xs i&&calm xs listed)=true:=by kernel_rfl) (hQ:∀c a w,Q (.panic c) (a.put o.dst v) w→Q (.panic c) a w:=by exact fun _ _ _ h=>h) (hw:Region.wanted o (yielded l.toArray a.tmps)=true:=by rfl) (hS:S w:=by assumption)
  (hy:∀w,S w→(execOp a.eval o).run P w=.ok (.value v) w:=by(intro w b;(try dsimp only at b);go_simp;first|done|with_reducible rfl|(rw[if_neg (by omega)];try with_reducible rfl))):zDt P md l Q xs S (fuel+1) listed a w (i::d) :=
 zEz i f g hf hr hx hQ hw hS hy h
theorem Gp {xs:List Nat}{i:Nat}{b:List Nat}{o:Oper}{r:List Oper}{v:Value}(d:l.drop i=o::r)(h:zDt P md l Q xs S fuel (listed.setIfInBounds i true) (a.put o.dst v) w b)
  (f:Region.noSelect l.toArray=true:=by kernel_rfl) (hf:Region.free md l.toArray listed i=true:=by kernel_rfl) (hr:(Region.ready md l.toArray listed).contains i=true:=by kernel_rfl)
  (hx:(!xs.contains i)=true:=by kernel_rfl) (hQ:∀c a w,Q (.panic c) (a.put o.dst v) w→Q (.panic c) a w:=by exact fun _ _ _ h=>h) (hw:Region.wanted o (yielded l.toArray a.tmps)=true:=by rfl) (hS:S w:=by assumption)
  (hy:∀w,(execOp a.eval o).run P w=.ok (.value v) w:=by(intro w;go_simp;try with_reducible rfl)):zDt P md l Q xs S (fuel+1) listed a w (i::b) :=
 g_pure0 i d f hf hr hx hQ hw hS hy h
theorem Pd {i:Nat}{b:List Nat}{o:Oper}{r:List Oper}{v:Value}(d:l.drop i=o::r)(g:∀w,S w→(execOp a.eval o).run P w=.ok (.value v) w)(h:wpPlan P md l Q S fuel (listed.setIfInBounds i true) (a.put o.dst v) w b)
  (f:Region.noSelect l.toArray=true:=by kernel_rfl) (hf:Region.free md l.toArray listed i=true:=by kernel_rfl) (hr:(Region.ready md l.toArray listed).contains i=true:=by kernel_rfl)
  (hQ:∀c a w,Q (.panic c) (a.put o.dst v) w→Q (.panic c) a w:=by exact fun _ _ _ h=>h) (hw:Region.wanted o (yielded l.toArray a.tmps)=true:=by rfl) (hS:S w:=by first|assumption|trivial):wpPlan P md l Q S (fuel+1) listed a w (i::b) :=
 zBi i d f hf hr hQ hw hS g h
theorem Ps {i:Nat}{b:List Nat}{o:Oper}{r:List Oper}(d:l.drop i=o::r)(h:wpPlan P md l Q S fuel (listed.setIfInBounds i true) (a.put o.dst undef) w b)
  (f:Region.noSelect l.toArray=true:=by kernel_rfl) (hf:Region.free md l.toArray listed i=true:=by kernel_rfl) (hr:(Region.ready md l.toArray listed).contains i=true:=by kernel_rfl)
  (hQ:∀c a w,Q (.panic c) (a.put o.dst undef) w→Q (.panic c) a w:=by exact fun _ _ _ h=>h) (hw:Region.wanted o (yielded l.toArray a.tmps)=false:=by rfl) (hS:S w:=by first|assumption|trivial):wpPlan P md l Q S (fuel+1) listed a w (i::b) :=
 ord_skip i d f hf hr hQ hw hS h
theorem Gd {xs:List Nat}{i:Nat}{b:List Nat}{o:Oper}{r:List Oper}{v:Value}(d:l.drop i=o::r)(g:∀w,S w→(execOp a.eval o).run P w=.ok (.value v) w)(h:zDt P md l Q xs S fuel (listed.setIfInBounds i true) (a.put o.dst v) w b)
  (f:Region.noSelect l.toArray=true:=by kernel_rfl) (hf:Region.free md l.toArray listed i=true:=by kernel_rfl) (hr:(Region.ready md l.toArray listed).contains i=true:=by kernel_rfl)
  (hx:(!xs.contains i&&waits md l.toArray xs i&&calm xs listed)=true:=by kernel_rfl) (hQ:∀c a w,Q (.panic c) (a.put o.dst v) w→Q (.panic c) a w:=by exact fun _ _ _ h=>h) (hw:Region.wanted o (yielded l.toArray a.tmps)=true:=by rfl) (hS:S w:=by assumption):zDt P md l Q xs S (fuel+1) listed a w (i::b) :=
 zEz i d f hf hr hx hQ hw hS g h
theorem Gs {xs:List Nat}{i:Nat}{b:List Nat}{o:Oper}{r:List Oper}(d:l.drop i=o::r)(h:zDt P md l Q xs S fuel (listed.setIfInBounds i true) (a.put o.dst undef) w b)
  (f:Region.noSelect l.toArray=true:=by kernel_rfl) (hf:Region.free md l.toArray listed i=true:=by kernel_rfl) (hr:(Region.ready md l.toArray listed).contains i=true:=by kernel_rfl)
  (hx:(!xs.contains i)=true:=by kernel_rfl) (hQ:∀c a w,Q (.panic c) (a.put o.dst undef) w→Q (.panic c) a w:=by exact fun _ _ _ h=>h) (hw:Region.wanted o (yielded l.toArray a.tmps)=false:=by rfl) (hS:S w:=by assumption):zDt P md l Q xs S (fuel+1) listed a w (i::b) :=
 g_skip i d f hf hr hx hQ hw hS h
end
end Go.Sat
namespace Go.Proofs.YtapfnehdgailmaaGreat
open Go.RowKit Go.Sat
def zBF (w:World)(x:Value)(ls:List Bs):Prop :=
 ∃p c,x=.slice p ls.length c∧ls.length≤c∧(ls≠[]→∃b o vs,p=some ⟨b,o,none⟩∧Lib.PartsAt w ⟨b,o,none⟩ vs ls)
theorem zGB {B:Nat}{w:World}{v:Value}{l:Bs}(h:Lib.FreshBytes B w v l):zAY w v l:=by
 obtain⟨g,c,zs,rfl,_,s,_,t,q,n,o,_⟩:=h;refine zAY.of_kit ⟨some ⟨g,0,none⟩,c,rfl,fun e=>(by cases e),fun a m i x f=>?_⟩;cases m;have p:i<l.length:=(List.getElem?_eq_some_iff.1 f).1;rw[add_zero,o i (by omega)];have b:i<zs.length:=by omega
 have j:(zs.take l.length)[i]?=some zs[i]:=by rw[List.getElem?_take,if_pos p,List.getElem?_eq_getElem b]
 have d:(Lib.bytesOf (zs.take l.length))[i]?=some x:=by rw[n];exact f
 simp only[Lib.bytesOf,List.getElem?_map,j,Option.map_some,Option.some.injEq]at d;have r:=q zs[i] (List.getElem_mem b);have k:zs.getD i 0=zs[i]:=by simp[List.getD,List.getElem?_eq_getElem b]
 rw[k,←d]
 congr 2
 simp;omega
theorem join_flat (ls:List Bs):Lib.join ls []=ls.flatten:=by
 cases ls with
 | nil=>rfl
 | cons x r =>
  rw[Lib.join_cons];simp[Lib.joinTail]
theorem flat_len (ls:List Bs):ls.flatten.length=Lib.lens ls:=by simp[Lib.lens,List.length_flatten]
theorem bjoin {w:World}{x:Value}{ls:List Bs}(h:zBF w x ls)(hn:ls.length≤140737488355328)(C:ls.flatten.length≤140737488355328) :
  Calls prog 145 #[x,.slice none 0 0] w fun e w'=>∃v,e=.returned v∧zAY w' v ls.flatten∧Below w.heap.size w w':=by
 obtain⟨p,c,rfl,E,D⟩:=h;cases ls with
 | nil =>
  refine(Tryz.bytes_Join_none p c (.slice none 0 0) w).mono ?_;rintro e w' ⟨rfl,rfl⟩;refine⟨_,rfl,?_,(Below.refl _ _).alloc (Nat.le_refl _) _⟩;exact zAY.of_kit ⟨_,_,rfl,fun e=>(by cases e),fun a j i x F=>by simp at F⟩
 | cons l0 r =>
  obtain⟨b,o,vs,rfl,B⟩:=D (by simp);cases r with
  | nil =>
   obtain⟨l,m,G,z,f,t,q⟩:=B.get 0 (by simp);simp at z;subst z;have d:w.cell? ⟨b,o,none⟩=some (.slice l l0.length m):=by simpa[Addr.add]using f
   by_cases A:l0.length=0
   ·have s:l0=[]:=List.eq_nil_of_length_eq_zero A;subst s;refine(Tryz.bytes_Join_one_empty b o c l m (.slice none 0 0) w d).mono ?_;rintro e w' ⟨rfl,rfl⟩;exact⟨_,rfl,zAY.of_kit ⟨none,0,rfl,fun _=>rfl,fun a j=>(by cases j)⟩,Below.refl _ _⟩
   ·obtain⟨y,rfl⟩:∃a,l=some a:=by
     cases l with
     | none=>exact absurd (by rw[t rfl];rfl) A
     | some a=>exact⟨a,rfl⟩
    refine(Tryz.bytes_Join_one b o c y m l0 (.slice none 0 0) w d (q y rfl) (by omega) (by simpa using C)).mono ?_;rintro e w' ⟨v,rfl,k,n⟩;exact⟨v,rfl,by simpa using zGB k,n⟩
  | cons l1 r =>
   have g:Lib.HoldsBytes w (.slice none 0 0) []:=⟨none,0,rfl,fun _=>rfl,fun a j=>(by cases j)⟩;refine(Tryz.bytes_Join_many b o _ c vs (l0::l1::r) (.slice none 0 0) [] w rfl (by simp) B E g hn (by rw[←flat_len];simpa using C)).mono ?_;rintro e w' ⟨v,rfl,k,n⟩;rw[join_flat]at k;exact⟨v,rfl,zGB k,n⟩
theorem zCs {w:World}{x:Value}{ls:List Bs}(h:zBF w x ls)(hn:ls.length≤140737488355328)(i:ls.flatten.length≤140737488355328) :
  Calls prog 66 #[x] w fun e w'=>∃v,e=.returned v∧zAY w' v ls.flatten∧Below w.heap.size w w':=by
 have b:=bjoin h hn i;obtain⟨p,c,rfl,k,f⟩:=h;have d:=zh b;clear b f
 go_enter func66,ntmps66
 go_wp2_with fail;refine d.o.mono ?_;rintro e w' ⟨v,rfl,j,g⟩;go_wp2_with fail;go_ret;exact⟨v,rfl,j,g⟩
theorem zB2 {w:World}{x:Value}{l:Bs}(h:zAY w x l)(o:l.length≤140737488355328) :
  Calls prog 111 #[x] w fun e w'=>∃v,e=.returned v∧zAk w' 5 v l∧(∀k,v.ownBlock=some k→w.heap.size≤k)∧Below w.heap.size w w':=by
 obtain⟨p,c,rfl,j,n⟩:=h.kit;cases p with
 | none =>
  have:=j rfl;subst this;refine(Tryz.bytes_Clone_nil _ c w).mono ?_;rintro e w' ⟨rfl,rfl⟩;exact⟨_,rfl,OwnR.nil _ _ _,fun k d=>(by cases d),Below.refl _ _⟩
 | some a =>
  refine(Tryz.bytes_Clone_at a l.length c (Lib.numsL l) w (Lib.numsL_length l) o fun i f=>?_).mono ?_
  ·rw[n a rfl i l[i] (List.getElem?_eq_getElem f)];simp[Lib.numsL,List.getD,List.getElem?_map,List.getElem?_eq_getElem f]
  ·rintro e w' ⟨v,rfl,b,_,m⟩;have g:(Lib.numsL l).map (Value.int .u8)=zAQ l:=by simp[Lib.numsL,zAQ]
   rw[g]at b;exact⟨v,rfl,OwnR.of_kit b,fun k d=>OwnR.block_ge b d,m⟩
end Go.Proofs.YtapfnehdgailmaaGreat
namespace Go.Proofs.YtapfnehdgailmaaGreat
open Go.RowKit Go.Sat Go.ChangeShapes Go.WideShapes Go.ChangeAt Go.Deep
theorem bytes_at {W:World}{a:Addr}{zs:List Int}{f b:Nat}(v:b≤f)(y:zs.length=f)(g:∀i,i<f→W.cell? (a.add i)=some (.int .u8 (zs.getD i 0)))(l:∀n∈zs,(Lit.int .u8 n).wf=true)(c:Nat) :
  zAY W (.slice (some a) b c) (Lib.bytesOf (zs.take b))∧(Lib.bytesOf (zs.take b)).length=b:=by
 have d:(Lib.bytesOf (zs.take b)).length=b:=by simp only[Lib.bytesOf,List.length_map,List.length_take];omega
 refine⟨?_,d⟩;refine zAY.of_kit ⟨some a,c,by rw[d],fun e=>(by cases e),fun s q i x k=>?_⟩;cases q;have r:i<b:=by rw[←d];exact(List.getElem?_eq_some_iff.1 k).1
 have j:i<zs.length:=by omega
 rw[g i (by omega)];have m:zs.getD i 0=zs[i]:=by simp[List.getD,List.getElem?_eq_getElem j]
 have o:(Lib.bytesOf (zs.take b))[i]?=some (UInt8.ofNat zs[i].toNat):=by
  simp only[Lib.bytesOf,List.getElem?_map,List.getElem?_take,if_pos r,List.getElem?_eq_getElem j,Option.map_some]
 rw[o]at k;simp only[Option.some.injEq]at k;rw[m,←k];have p:=l zs[i] (List.getElem_mem j);have t:=bounds_u8 p;simp;omega
theorem zFC {P:Program}{H:Type}{t e:TypeId}{b c:List (DataW H)}(d:P.underlying t=some (.slice e)){B:Nat}(h:∀n∈(DataW.slice b c).weights P t,n≤B):(b.length+c.length)*P.bytesOf e≤B :=
 h _ (by simp[DataW.weights,d])
theorem weights_in {P:Program}{H:Type}{e:TypeId}{d:DataW H}{n:Nat}(hn:n∈d.weights P e):∀{b:List (DataW H)},d∈b→n∈DataW.weightsAll P e b
 | [],h=>by simp at h
 | x::r,h=>by
  simp only[DataW.weightsAll,List.mem_append];rcases List.mem_cons.1 h with rfl|h
  ·exact .inl hn
  ·exact .inr (weights_in hn h)
theorem weights_elem {P:Program}{H:Type}{t e:TypeId}{b c:List (DataW H)}(g:P.underlying t=some (.slice e)){B:Nat}(h:∀n∈(DataW.slice b c).weights P t,n≤B){d:DataW H}(f:d∈b):∀n∈d.weights P e,n≤B :=
 fun n hn=>h n (by simp[DataW.weights,g,weights_in hn f])
section
variable {H:Type} {enc:TypeId×Value→H} {W:World} {fuel:Nat} {d:DataW H} {ps:List MemPlace}
theorem bytes_arg {a:Option Addr}{j f:Nat}(t:DataW.trod enc prog W 0 (fun _=>true) true fuel 22 [.slice a j f]=some (d,ps))(y:∀n∈d.weights prog 22,n≤reachBytes) :
  ∃l,zAY W (.slice a j f) l∧l.length≤140737488355328:=by
 rcases open_ints underlying22 underlying5 (by kernel_rfl) t with⟨b,_⟩|⟨x,l,c,zs,b,_,v,h,p,o,g,m⟩
 ·simp at b;obtain⟨rfl,rfl,rfl⟩:=b;exact⟨[],⟨by simp[zAQ],none,0,rfl,fun _=>rfl,fun a s=>by cases s⟩,by simp⟩
 ·simp at b;obtain⟨rfl,rfl,rfl⟩:=b;simp only[if_true]at p;obtain⟨q,r⟩:=bytes_at v p (fun i z=>g i (by omega)) m f;refine⟨_,q,?_⟩;simp only[Prod.mk.injEq]at o;obtain⟨rfl,_⟩:=o;have k:=zFC underlying22 y;rw[show prog.bytesOf 5=1 by kernel_rfl]at k;simp only[lits,List.length_map,List.length_take,List.length_drop]at k;rw[r];unfold reachBytes at k;omega
end
end Go.Proofs.YtapfnehdgailmaaGreat
namespace Go.Sat
def zD8 (n:Nat):Bs:=if n<128 then [UInt8.ofNat n]else UInt8.ofNat (n%128+128)::zD8 (n/128)
termination_by n
decreasing_by omega
def zDf (v:Int):Bs:=zD8 (max 0 (min v 4611686018427387904)).toNat
def zAp (l:List Int):Bs:=(l.map zDf).flatten
def zE5 (p:Bs):Bs:=zD8 p.length++p
theorem zCt {n:Nat}(h:n<128):zD8 n=[UInt8.ofNat n]:=by rw[zD8,if_pos h]
theorem zD9 {n:Nat}(h:128≤n):zD8 n=UInt8.ofNat (n%128+128)::zD8 (n/128):=by rw[zD8,if_neg (by omega)]
theorem zB8 {n:Nat}(h:n≤4611686018427387904):zDf (n:Int)=zD8 n:=by
 unfold zDf
 congr 1
 omega
theorem numB_len (n:Nat):1≤(zD8 n).length:=by
 rw[zD8]
 split<;>simp
theorem numB_le (k:Nat):∀n,n<128 ^ (k+1)→(zD8 n).length≤k+1:=by
 induction k with
 | zero =>
  intro n h;rw[zCt (by simpa using h)];simp
 | succ k ih =>
  intro n h
  by_cases hn:n<128
  ·rw[zCt hn];simp
  ·rw[zD9 (by omega),List.length_cons];have:=ih (n/128) (by rw[Nat.div_lt_iff_lt_mul (by decide),←Nat.pow_succ];exact h);omega
theorem zAg {n:Nat}(h:n≤4611686018427387904):(zD8 n).length≤9:=numB_le 8 n (Nat.lt_of_le_of_lt h (by decide))
def zCo:Nat→Nat→Bs→Option (Nat×Bs)
 | _,_,[]=>none
 | i,u,c::r=>if 9≤i∨(0<i∧c=0)then none
  else if c.toNat<128 then(if 4611686018427387904<u+c.toNat*128 ^ i then none else some (u+c.toNat*128 ^ i,r))
  else zCo (i+1) (u+c.toNat%128*128 ^ i) r
theorem numGo_num (n:Nat):∀(i u:Nat) (r:Bs),(0<i→0<n)→u+n*128 ^ i≤4611686018427387904→zCo i u (zD8 n++r)=some (u+n*128 ^ i,r):=by
 induction n using Nat.strongRecOn with
 | ind n ih =>
  intro i u r j o;have k:¬9≤i∨n=0:=by
   by_cases hn:n=0
   ·exact .inr hn
   ·refine .inl fun m=>?_;have b:128 ^ 9≤128 ^ i:=Nat.pow_le_pow_right (by decide) m;have d:1*128 ^ 9≤n*128 ^ i:=Nat.mul_le_mul (by omega) b;have c:(128:Nat) ^ 9=9223372036854775808:=by decide
    omega
  by_cases hn:n<128
  ·rw[zCt hn]
   show(if _ then _ else _)=_
   have e:(UInt8.ofNat n).toNat=n:=by rw[UInt8.toNat_ofNat'];omega
   have g:¬(9≤i∨(0<i∧UInt8.ofNat n=0)):=by
    rintro(h|⟨b,d⟩)
    ·rcases k with f|f
     ·exact f h
     ·have:=j (by omega);omega
    ·have c:=congrArg UInt8.toNat d;rw[e]at c;have:=j b;simp at c;omega
   rw[if_neg g,e,if_pos hn,if_neg (by omega)];rfl
  ·rw[zD9 (by omega)]
   show(if _ then _ else _)=_
   have e:(UInt8.ofNat (n%128+128)).toNat=n%128+128:=by rw[UInt8.toNat_ofNat'];omega
   have g:¬(9≤i∨(0<i∧UInt8.ofNat (n%128+128)=0)):=by
    rintro(h|⟨b,d⟩)
    ·rcases k with f|f<;>omega
    ·have c:=congrArg UInt8.toNat d;rw[e]at c;simp at c
   rw[if_neg g,e,if_neg (by omega)];have l:u+(n%128+128)%128*128 ^ i+n/128*128 ^ (i+1)=u+n*128 ^ i:=by
    have b:n=n%128+128*(n/128):=by omega
    have d:n*128 ^ i=n%128*128 ^ i+n/128*128 ^ (i+1):=by
     conv=>lhs;rw[b]
     rw[Nat.add_mul,Nat.pow_succ,Nat.mul_comm 128 (n/128),Nat.mul_assoc,Nat.mul_comm 128 (128 ^ i)]
    rw[show(n%128+128)%128=n%128 by omega];omega
   have:=ih (n/128) (by omega) (i+1) (u+(n%128+128)%128*128 ^ i) r (fun _=>by omega) (by rw[l];exact o);rw[l]at this;exact this
theorem numGo_some:∀(l:Bs) (i u n:Nat) (r:Bs),zCo i u l=some (n,r)→n≤4611686018427387904∧∃k,0<k∧k≤l.length∧r=l.drop k:=by
 intro l
 induction l with
 | nil=>intro i u n r h;cases h
 | cons c l ih =>
  intro i u n r h;unfold zCo at h
  split at h
  ·cases h
  ·split at h
   ·split at h
    ·cases h
    ·cases h;exact⟨by omega,1,by decide,by simp,rfl⟩
   ·obtain⟨b,k,f,d,g⟩:=ih _ _ _ _ h;exact⟨b,k+1,by omega,by simpa using d,by rw[g];rfl⟩
structure Rd where
 rest:Bs
 bad:Bool
namespace Rd
def fail:Rd:=⟨[],true⟩
def num (R:Rd):Nat×Rd:=match zCo 0 0 R.rest with
 | some (n,r)=>(n,⟨r,R.bad⟩)
 | none=>(0,fail)
def raw (R:Rd)(n:Nat):Bs×Rd:=if n≤R.rest.length then(R.rest.take n,⟨R.rest.drop n,R.bad⟩)else([],fail)
def bytes (R:Rd):Bs×Rd:=R.num.2.raw R.num.1
def whole (R:Rd):Bool:=!R.bad&&R.rest.isEmpty
theorem num_le (R:Rd):R.num.1≤4611686018427387904:=by
 unfold num
 split
 ·exact(numGo_some _ _ _ _ _ ‹_›).1
 ·exact Nat.zero_le _
theorem num_rest (R:Rd):R.num.2.rest.length≤R.rest.length:=by
 unfold num
 split
 ·obtain⟨-,k,-,c,b⟩:=numGo_some _ _ _ _ _ ‹_›;simp only[b,List.length_drop];omega
 ·exact Nat.zero_le _
theorem num_of {n:Nat}(h:n≤4611686018427387904)(r:Bs)(b:Bool):num ⟨zD8 n++r,b⟩=(n,⟨r,b⟩):=by
 unfold num;have:=numGo_num n 0 0 r (fun h=>absurd h (by decide)) (by simpa using h);simp only[this];simp
theorem raw_of (p r:Bs)(b:Bool):raw ⟨p++r,b⟩ p.length=(p,⟨r,b⟩):=by
 unfold raw;rw[if_pos (by simp)];simp
theorem bytes_of {p:Bs}(h:p.length≤4611686018427387904)(r:Bs)(b:Bool):bytes ⟨zE5 p++r,b⟩=(p,⟨r,b⟩):=by
 unfold bytes zE5;rw[List.append_assoc,num_of h,raw_of]
end Rd
end Go.Sat
namespace Go.Proofs.YtapfnehdgailmaaGreat
open Go.RowKit Go.Sat Go.Maps
/-! ### The model -/
structure zAS where
 data:Bs
 lasts:Nat
structure zAA where
 room:Nat
 files:List (Bs×zAS)
 fuse:Option Nat
def okN (n:Bs):Bool:=decide (1≤n.length)&&decide (n.length≤64)
namespace zAA
def size (f:zAS):Nat:=f.data.length
def used (D:zAA):Nat:=zBM size D.files
def may (D:zAA)(ns:List Bs):Nat:=if D.fuse=some 0 then 9 else if ns.all okN then 0 else 1
def done (D:zAA):zAA:={D with fuse:=D.fuse.map (·-1) }
def cur (D:zAA)(n:Bs):zAS:=(get n D.files).getD ⟨[],0⟩
def full (D:zAA)(n b:Bs):Bool:=decide (D.room<D.used+b.length)||((get n D.files).isNone&&decide (4096≤D.files.length))
def append (D:zAA)(n b:Bs):zAA×Nat :=
 if D.may [n]≠0 then(D,D.may [n])
 else if D.full n b then(D,6)
 else(done {D with files:=put n ⟨(D.cur n).data++b,(D.cur n).lasts⟩ D.files},0)
def each1 (g:Bs→zAS→List (Bs×zAS)→List (Bs×zAS))(D:zAA)(n:Bs):zAA×Nat :=
 if D.may [n]≠0 then(D,D.may [n])
 else match get n D.files with
  | none=>(D,7)
  | some f=>(done {D with files:=g n f D.files},0)
def each (g:Bs→zAS→List (Bs×zAS)→List (Bs×zAS))(D:zAA):List Bs→zAA×Nat
 | []=>(D,0)
 | n::r=>if(each1 g D n).2=0 then each g (each1 g D n).1 r else each1 g D n
def gSync (n:Bs)(f:zAS)(L:List (Bs×zAS)):List (Bs×zAS):=put n ⟨f.data,f.data.length⟩ L
def gRemove (n:Bs)(_:zAS)(L:List (Bs×zAS)):List (Bs×zAS):=del n L
def sync (D:zAA)(ns:List Bs):zAA×Nat:=D.each gSync ns
def remove (D:zAA)(ns:List Bs):zAA×Nat:=D.each gRemove ns
def truncate (D:zAA)(n:Bs)(k:Int):zAA×Nat :=
 if D.may [n]≠0 then(D,D.may [n])
 else match get n D.files with
  | none=>(D,7)
  | some f=>if k<0∨(f.data.length:Int)<k then(D,1)
   else(done {D with files:=put n ⟨f.data.take k.toNat,min f.lasts k.toNat⟩ D.files},0)
def rename (D:zAA)(o n:Bs):zAA×Nat :=
 if D.may [o,n]≠0 then(D,D.may [o,n])
 else match get o D.files with
  | none=>(D,7)
  | some f=>(done {D with files:=put n f (del o D.files) },0)
def setFuse (D:zAA)(n:Int):zAA:={D with fuse:=if n<0 then none else some n.toNat}
def stays (f:zAS)(k:Int):Nat:=f.lasts+(max 0 k).toNat%(f.data.length-f.lasts+1)
def crashF (k:Int)(f:zAS):zAS:=⟨f.data.take (stays f k),stays f k⟩
def crash (D:zAA)(k:Int):zAA:={D with files:=mp (crashF k) D.files,fuse:=none}
def fresh (room:Nat):zAA:=⟨room,[],none⟩
def copy (D:zAA):zAA:={D with fuse:=none}
structure OK (D:zAA):Prop where
 srt:Srt D.files
 room:D.room≤1073741824
 used:D.used≤D.room
 count:D.files.length≤4096
 names:∀p∈D.files,okN p.1=true
 lasts:∀p∈D.files,p.2.lasts≤p.2.data.length
 fuse:∀k,D.fuse=some k→k≤9223372036854775807
end zAA
/-! ### In memory -/
abbrev Own:=Nat→Option (Nat×Bs)
structure zCA where
 fb:Nat
 v:Value
 f:zAS
structure FileAt (w:World)(own:Own)(n:Bs)(r:zCA):Prop where
 cells:w.heap[r.fb]?=some (.cells #[r.v,.int .i64 (r.f.lasts:Int)] 123 (0,0))
 ob:own r.fb=some (2,n)
 row:zAk w 5 r.v r.f.data
 og:∀g,r.v.ownBlock=some g→own g=some (3,n)
def fbD (r:zCA):DataW Nat:=.held r.fb
structure zAc (w:World)(d m:Nat)(left:Int)(L:List (Bs×zCA))(own:Own)(D:zAA):Prop where
 cells:w.heap[d]?=some (.cells #[.int .i64 (D.room:Int),.map (some m),.bool D.fuse.isSome,.int .i64 left] 115 (0,0))
 left:∀k,D.fuse=some k→left=(k:Int)
 map:w.ownsMap prog 9 ptrR m L.length (dm fbD L)
 files:D.files=mp zCA.f L
 srt:Srt L
 file:∀p∈L,FileAt w own p.1 p.2
 od:own d=some (0,[])
 om:own m=some (1,[])
 olt:∀k t,own k=some t→k<w.heap.size
 ok:D.OK
def zCa (w:World)(d:Nat)(D:zAA)(own:Own):Prop:=∃m left L,zAc w d m left L own D
def Ext (w:World)(own own':Own):Prop:=∀k,k<w.heap.size→own k=none→own' k=none
def Has (own:Own)(k:Nat):Prop:=own k≠none
theorem FileAt.keep {w w':World}{own:Own}{n:Bs}{r:zCA}(h:FileAt w own n r)(b:∀k,own k≠none→w'.heap[k]?=w.heap[k]?):FileAt w' own n r :=
 ⟨(b _ (by rw[h.ob];simp)).trans h.cells,h.ob,h.row.keep fun k c=>b k (by rw[h.og k c];simp),h.og⟩
theorem zAc.keep {w w':World}{d m:Nat}{left:Int}{L:List (Bs×zCA)}{own:Own}{D:zAA}(h:zAc w d m left L own D)(g:w.heap.size≤w'.heap.size)
  (c:∀k,own k≠none→w'.heap[k]?=w.heap[k]?):zAc w' d m left L own D where
 cells:=(c d (by rw[h.od];simp)).trans h.cells
 left:=h.left
 map:=by
  obtain⟨es,b,f,r⟩:=h.map;exact⟨es,b,(c m (by rw[h.om];simp)).trans f,r⟩
 files:=h.files
 srt:=h.srt
 file p hp:=(h.file p hp).keep c
 od:=h.od
 om:=h.om
 olt k t hk:=Nat.lt_of_lt_of_le (h.olt k t hk) g
 ok:=h.ok
theorem zAc.chg {w w':World}{S:Nat→Prop}{d m:Nat}{left:Int}{L:List (Bs×zCA)}{own:Own}{D:zAA}(h:zAc w d m left L own D)(b:Chg S w w')(hS:∀k,S k→own k=none) :
  zAc w' d m left L own D :=
 h.keep b.size fun k c=>b.block k (by
  cases f:own k with
  | none=>exact absurd f c
  | some t=>exact h.olt k t f) fun s=>c (hS k s)
theorem zCa.chg {w w':World}{S:Nat→Prop}{d:Nat}{own:Own}{D:zAA}(h:zCa w d D own)(b:Chg S w w')(hS:∀k,S k→own k=none):zCa w' d D own:=by
 obtain⟨m,left,L,h⟩:=h;exact⟨m,left,L,h.chg b hS⟩
section
variable {w:World} {d m:Nat} {left:Int} {L:List (Bs×zCA)} {own:Own} {D:zAA}
theorem zAc.c0 (h:zAc w d m left L own D):w.cell? ⟨d,0,none⟩=some (.int .i64 (D.room:Int)):=zAG h.cells rfl
theorem zAc.c1 (h:zAc w d m left L own D):w.cell? ⟨d,1,none⟩=some (.map (some m)):=zAG h.cells rfl
theorem zAc.c2 (h:zAc w d m left L own D):w.cell? ⟨d,2,none⟩=some (.bool D.fuse.isSome):=zAG h.cells rfl
theorem zAc.c3 (h:zAc w d m left L own D):w.cell? ⟨d,3,none⟩=some (.int .i64 left):=zAG h.cells rfl
theorem zAc.get (h:zAc w d m left L own D)(n:Bs):Sat.get n D.files=(Sat.get n L).map zCA.f:=by rw[h.files,zGL]
theorem zAc.len (h:zAc w d m left L own D):D.files.length=L.length:=by rw[h.files,mp_len]
theorem zAc.used (h:zAc w d m left L own D):D.used=zBM (fun r:zCA=>r.f.data.length) L:=by
 unfold zAA.used;rw[h.files,mp_sum];rfl
theorem zAc.dlt (h:zAc w d m left L own D):d<w.heap.size:=h.olt d _ h.od
theorem zAc.mlt (h:zAc w d m left L own D):m<w.heap.size:=h.olt m _ h.om
theorem zAc.dm_ne (h:zAc w d m left L own D):d≠m:=by
 intro e;have b:=h.od;rw[e,h.om]at b;simp at b
end
theorem le_sum {α:Type}{f:α→Nat}{L:List (Bs×α)}{n:Bs}{a:α}(h:Srt L)(b:get n L=some a):f a≤zBM f L:=by
 rw[zC0 (f:=f) h b];omega
end Go.Proofs.YtapfnehdgailmaaGreat
