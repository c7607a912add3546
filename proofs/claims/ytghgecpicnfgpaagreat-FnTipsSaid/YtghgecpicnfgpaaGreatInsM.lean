/- slices.Insert of one number, out of its contract: a row with one cell more. -/
import Derived.Laws.IdiomCopy
import Derived.Laws.AppendOwn
import Derived.Test.YtghgecpicnfgpaaGreatBaseC
namespace Go.Proofs.YtghgecpicnfgpaaGreat.Ow
open Go
set_option linter.unusedVariables false
set_option linter.unusedSimpArgs false
variable {P:Program} {fm:Fm} {e:Env}
def PL:List (List T)->List Value->Prop
 |[],[]=>True
 |[d]::r,v::l=>DV d v/\PL r l
 |_,_=>False
theorem PL.len: ∀ {r:List (List T)} {l:List Value},PL r l->r.length=l.length
 |[],[],_=>rfl
 |[d]::r,v::l,h=>by simp[h.2.len]
 |[],_::_,h=>h.elim
 |[_]::_,[],h=>h.elim
 |[]::_,_,h=>by simp[PL]at h
 |(_::_::_)::_,_,h=>by simp[PL]at h
theorem PL.append: ∀ {r r':List (List T)} {l l':List Value},PL r l->PL r' l'->PL (r++r') (l++l')
 |[],_,[],_,_,h=>h
 |[d]::r,_,v::l,_,h,h'=>⟨h.1,h.2.append h'⟩
 |[],_,_::_,_,h,_=>h.elim
 |[_]::_,_,[],_,h,_=>h.elim
 |[]::_,_,_,_,h,_=>by simp[PL]at h
 |(_::_::_)::_,_,_,_,h,_=>by simp[PL]at h
theorem PL.take: ∀ {r:List (List T)} {l:List Value} (n:Nat),PL r l->PL (r.take n) (l.take n)
 |_,_,0,_=>by simp[PL]
 |[],[],_+1,_=>by simp[PL]
 |[d]::r,v::l,n+1,h=>⟨h.1,h.2.take n⟩
 |[],_::_,_+1,h=>h.elim
 |[_]::_,[],_+1,h=>h.elim
 |[]::_,_,_+1,h=>by simp[PL]at h
 |(_::_::_)::_,_,_+1,h=>by simp[PL]at h
theorem PL.drop: ∀ {r:List (List T)} {l:List Value} (n:Nat),PL r l->PL (r.drop n) (l.drop n)
 |_,_,0,h=>by simpa using h
 |[],[],_+1,_=>by simp[PL]
 |[d]::r,v::l,n+1,h=>by simpa using h.2.drop n
 |[],_::_,_+1,h=>h.elim
 |[_]::_,[],_+1,h=>h.elim
 |[]::_,_,_+1,h=>by simp[PL]at h
 |(_::_::_)::_,_,_+1,h=>by simp[PL]at h
theorem PL.one: ∀ {r:List (List T)} {l:List Value},PL r l-> ∀v∈l,v.oneCell'=true
 |[],[],_,v,hv=>by cases hv
 |[d]::r,u::l,h,v,hv=>by
  rcases List.mem_cons.1 hv with rfl|h2
  ·exact Eg h.1
  ·exact h.2.one v h2
 |[],_::_,h,_,_=>h.elim
 |[_]::_,[],h,_,_=>h.elim
 |[]::_,_,h,_,_=>by simp[PL]at h
 |(_::_::_)::_,_,h,_,_=>by simp[PL]at h
theorem PL.row: ∀ {r:List (List T)} {l:List Value},PL r l-> ∀x∈r,x.length=1
 |[],[],_,v,hv=>by cases hv
 |[d]::r,u::l,h,v,hv=>by
  rcases List.mem_cons.1 hv with rfl|h2
  ·rfl
  ·exact h.2.row v h2
 |[],_::_,h,_,_=>h.elim
 |[_]::_,[],h,_,_=>h.elim
 |[]::_,_,h,_,_=>by simp[PL]at h
 |(_::_::_)::_,_,h,_,_=>by simp[PL]at h
theorem PL.get: ∀ {r:List (List T)} {l:List Value} {i j:Nat} {d:T},PL r l->AI r i j=some d->j=0/\ ∃v,l[i]? =some v/\DV d v
 |[],[],i,j,d,_,hd=>by simp[AI]at hd
 |[d0]::r,v::l,0,j,d,h,hd=>by
  simp only[AI,List.getElem?_cons_zero]at hd
  cases j with
  |zero=>simp at hd;subst hd;exact⟨rfl,v,rfl,h.1⟩
  |succ j=>simp at hd
 |[d0]::r,v::l,i+1,j,d,h,hd=>by
  have:AI r i j=some d:=by simpa[AI]using hd
  simpa using h.2.get this
 |[],_::_,_,_,_,h,_=>h.elim
 |[_]::_,[],_,_,_,h,_=>h.elim
 |[]::_,_,_,_,_,h,_=>by simp[PL]at h
 |(_::_::_)::_,_,_,_,_,h,_=>by simp[PL]at h
theorem PL.of: ∀ {r:List (List T)} {f:Nat->Value},(∀x∈r,x.length=1)->(∀i d,AI r i 0=some d->DV d (f i))->PL r ((List.range r.length).map f)
 |[],f,_,_=>by simp[PL]
 |x::r,f,h1,h2=>by
  obtain⟨d,rfl⟩: ∃d,x=[d]:=List.length_eq_one_iff.1 (h1 x List.mem_cons_self)
  have ih:=PL.of (r:=r) (f:=λi=>f (i+1)) (λy hy=>h1 y (List.mem_cons_of_mem _ hy)) (λi d hd=>h2 (i+1) d (by simpa[AI]using hd))
  rw[List.length_cons,List.range_succ_eq_map,List.map_cons,List.map_map]
  exact⟨h2 0 d rfl,ih⟩
theorem DV.cell {d:T} {v x:Value} (h:DV d v):CU d v x:=by
 rcases h with ⟨s,rfl,rfl,h1⟩|⟨rfl,h1⟩
 ·exact⟨rfl,h1⟩
 ·exact h1
theorem PL.node {w:World} {b off c:Nat} {r:List (List T)} {l:List Value} (h:PL r l) (hc:r.length<=c/\c<=9223372036854775807) (hw: ∀x,x<c->Wr w b (off+x))
  (hl: ∀j v,l[j]? =some v->w.cell? ⟨b,off+j,none⟩=some v) (sub:Nat->Nat->Value):Bq w (.slice (some ⟨b,off,none⟩) r.length c) 1 r sub:=by
 refine⟨_,c,rfl,hc,λ_=>⟨b,off,rfl,λx hx=>hw x (by omega),h.row,λi j d hd=> ?_⟩⟩
 obtain⟨rfl,v,h1,h2⟩:=h.get hd
 exact⟨v,by rw[Nat.mul_one,Nat.add_zero];exact hl i v h1,h2.cell⟩
theorem WA {args:List Arg} {r:Res} {vs:List Value} (hX:I1 fm e args vs) {n k:Nat} {rows:List (List T)} {v:Value} {w':World} (hout:CN args r=([.ref n []],[(n,.arr k rows)])) (hn:(AH 0 0 args).2.2<=n)
  (hno: ∀o c,e.ob o≠ .box c) (hflat:An rows=true) (hk:D7 fm.w0 fm.F w') (hsz:e.w.heap.size<=w'.heap.size) (hnode: ∀sub,Bq w' v k rows sub)
  (hblk: ∀b,BC v=some b->b<w'.heap.size/\(fm.w0.heap.size<=b\/fm.F b)/\ ¬e.Im b): ∃e',e'.w=w'/\KH fm e args r e' v:=by
 let e':Env:={w:=w',ob:=λo=>if o=n then .arr k rows else .none,hd:=λ_ _=>v,bk:=λ_=>0,Im:=e.Im,tk:=e.tk}
 have hob: ∀o,e'.ob o=if o=n then .arr k rows else .none:=λ_=>rfl
 have hnd: ∀ {o p k1 r1},e'.node o p=some (k1,r1)->o=n/\p=[]/\k1=k/\r1=rows:=by
  intro o p k1 r1 h
  unfold Env.node at h
  rw[hob]at h
  by_cases ho:o=n
  ·rw[if_pos ho]at h
   cases p with
   |nil=>simp[AM]at h;exact⟨ho,rfl,h.1.symm,h.2.symm⟩
   |cons b p=>
    have h:AM k rows (b::p)=some (k1,r1):=h
    rw[FZ (λi j d hd=>Dk hflat hd)]at h;cases h
  ·rw[if_neg ho]at h;cases h
 have hbl: ∀ {l b},e'.blk l=some b->l= .nd n []/\BC v=some b:=by
  intro l b h
  cases l with
  |nd o p=>
   obtain⟨k1,r1,h1,h2⟩:=E9 h
   obtain⟨rfl,rfl,_,_⟩:=hnd h1
   exact⟨rfl,h2⟩
  |bx o=>
   obtain⟨c,h1,_⟩:=Dv h
   rw[hob]at h1
   split at h1<;>cases h1
 have hnb: ∀ {o c},e'.ob o≠ .box c:=λ{o c} h=>by rw[hob]at h;split at h<;>cases h
 refine⟨e',rfl,⟨⟨λo cs h=>absurd h hnb,λo p k1 r1 h=> ?_,λl l' b h h'=>by rw[(hbl h).1,(hbl h').1],λl b h=>hblk b (hbl h).2,λx hx=> ?_,hX.mem.im0,hk,hX.mem.tk⟩,λo=> ?_,λo k1 r1 ho h=> ?_,λo c0 _ h=>absurd h (hno o c0),λo c _ h=>absurd h hnb,?_⟩⟩
 ·obtain⟨rfl,rfl,rfl,rfl⟩:=hnd h
  exact hnode _
 ·have:=hX.mem.im x hx
  exact⟨Nat.lt_of_lt_of_le this.1 hsz,this.2⟩
 ·rw[hout,hob]
  simp only[AN]
 ·rw[hob,if_neg (by omega)]at h;cases h
 ·rw[hout]
  exact .ref n [] k rows (by unfold Env.node;rw[hob,if_pos rfl];rfl)
theorem F5 (w:World) (b off:Nat):BK w w.drew b off []:=
 ⟨rfl,rfl,rfl,rfl,λ_ _=>rfl,λj=>by rw[if_neg (by simp)];rfl,λ_=>rfl⟩
theorem Ba {b:Nat}: ∀ {vs:List Value} {w:World} {o:Nat},(∀j,j<vs.length->Wr w b (o+j))->BK w (w.setCells b o vs) b o vs
 |[],w,o,_=>BK.nil w b o
 |v::r,w,o,h=>by
  have h1:=Hf (v:=v) (by have:=h 0 (by simp);rwa [Nat.add_zero]at this)
  exact h1.cons (Ba λj hj=>h1.wr (by
   have:=h (j+1) (by simp;omega)
   rwa [show o+(j+1)=o+1+j by omega]at this))
theorem Wr.shape {w:World} {b j:Nat} (h:Wr w b j): ∃t k,w.shape? b=some (t,k)/\k≠0:=by
 obtain⟨⟨u,h1⟩,_⟩:=h
 unfold World.cell? at h1
 unfold World.shape?
 split at h1
 ·rename_i c t fr hh
  simp only[Option.isSome_none,Bool.false_eq_true,if_false]at h1
  have hh:w.heap[b]? =some (.cells c t fr):=hh
  rw[hh]
  exact⟨t,c.size,rfl,by have:=(Array.getElem?_eq_some_iff.1 h1).1;omega⟩
 ·cases h1
structure InsC (P:Program) (f:Nat) (el:TypeId):Prop where
 shift: ∀ (b off n c i vb voff m vc:Nat) (cs vs:List Value) (w:World),i<n->0<m->n+m<=c->c<=9223372036854775807->vb≠b->cs.length=n->vs.length=m->
  (∀ (j:Nat) v,cs[j]? =some v->w.cell? ⟨b,off+j,none⟩=some v)->(∀j,j<n+m->(w.cell? ⟨b,off+j,none⟩).isSome=true)->(∀j,j<n+m->w.frozen? ⟨b,off+j,none⟩=false)->
  (∀ (j:Nat) v,vs[j]? =some v->w.cell? ⟨vb,voff+j,none⟩=some v)->(∀v∈cs,v.oneCell'=true)->(∀v∈vs,v.oneCell'=true)->
  ∀ (tA tB:TypeId) (kA kB:Nat),w.shape? vb=some (tA,kA)->w.shape? b=some (tB,kB)->kB≠0->w.frozen? ⟨vb,voff,none⟩=false->w.frozen? ⟨vb,kA,none⟩=false->
  Calls P f #[.slice (some ⟨b,off,none⟩) n c,.int .i64 i,.slice (some ⟨vb,voff,none⟩) m vc] w λe w'=>
   e= .returned (.slice (some ⟨b,off,none⟩) (n+m) c)/\w'=(w.drew.setCells b (off+(i+m)) (cs.drop i)).setCells b (off+i) vs
 room: ∀ (b off n c vb voff m vc:Nat) (vs:List Value) (w:World),0<m->n+m<=c->c<=9223372036854775807->vs.length=m->
  (∀j,j<m->(w.cell? ⟨b,off+n+j,none⟩).isSome=true)->(∀j,j<m->w.frozen? ⟨b,off+n+j,none⟩=false)->
  (∀ (j:Nat) v,vs[j]? =some v->w.cell? ⟨vb,voff+j,none⟩=some v)->(∀v∈vs,v.oneCell'=true)->
  Calls P f #[.slice (some ⟨b,off,none⟩) n c,.int .i64 n,.slice (some ⟨vb,voff,none⟩) m vc] w λe w'=>
   e= .returned (.slice (some ⟨b,off,none⟩) (n+m) c)/\w'=w.setCells b (off+n) vs
 endGrow: ∀ (base:Option Addr) (n c vb voff m vc:Nat) (cs vs:List Value) (w:World),0<m->n<=c->c<n+m->(n+m)*8<=140737488355328->cs.length=n->vs.length=m->(base=none->n=0)->
  (∀a,base=some a-> ∀ (j:Nat) v,cs[j]? =some v->w.cell? (a.add j)=some v)->(∀ (j:Nat) v,vs[j]? =some v->w.cell? ⟨vb,voff+j,none⟩=some v)->(∀v∈vs,v.oneCell'=true)->
  Calls P f #[.slice base n c,.int .i64 n,.slice (some ⟨vb,voff,none⟩) m vc] w λe w'=>
   e= .returned (.slice (some ⟨w.heap.size,0,none⟩) (n+m) (grownCap w (n+m) c el))/\
   w'=w.drew.alloc (.cells ((cs++vs).toArray++Builtin.zeroCells (Value.int .i64 0).cells (grownCap w (n+m) c el - (n+m))) el)
 grow: ∀ (b off n c i vb voff m vc:Nat) (cs vs:List Value) (w:World),i<n->0<m->n<=c->c<n+m->(n+m)*8<=140737488355328->cs.length=n->vs.length=m->
  (∀ (j:Nat) v,cs[j]? =some v->w.cell? ⟨b,off+j,none⟩=some v)->(∀ (j:Nat) v,vs[j]? =some v->w.cell? ⟨vb,voff+j,none⟩=some v)->(∀v∈cs,v.oneCell'=true)->(∀v∈vs,v.oneCell'=true)->
  Calls P f #[.slice (some ⟨b,off,none⟩) n c,.int .i64 i,.slice (some ⟨vb,voff,none⟩) m vc] w λe w'=>
   e= .returned (.slice (some ⟨w.heap.size,0,none⟩) (n+m) (grownCap w (n+m) c el))/\
   w'=(((w.alloc (.cells ((cs.take i).toArray++Builtin.zeroCells (Value.int .i64 0).cells (n+m - i)++Builtin.zeroCells (Value.int .i64 0).cells (grownCap w (n+m) c el - (n+m))) el)).drew.setCells w.heap.size i vs).drew).setCells w.heap.size (i+m) (cs.drop i)
theorem NQ (n:Nat):(Builtin.zeroCells (Value.int .i64 0).cells n).size=n:=by simp[Builtin.zeroCells,Value.cells]
theorem ins_ok {f:Nat} {el:TypeId} (hE:FB P f) (hC:InsC P f el) {rows:List (List T)} {u:Value} {i:Nat} (hflat:An rows=true) (hi:i<=rows.length) (hbig:(rows.length+1)*8<=35184372088832):
  FB P f/\KJ P f [.v (.own 1 rows),.v (.sc (.int .i64 (i:Int))),.v (.own 1 [[.sc u]])] {out:=[.v (.own 1 (rows.take i++[[.sc u]]++rows.drop i))],fin:=[none,none],pfin:=[]}:=by
 refine⟨hE,λfm e vs hX=> ?_⟩
 obtain⟨v0,v1,v2,rfl⟩: ∃a b c,vs=[a,b,c]:=by
  have hlen:=hX.len
  match vs,hlen with
  |[a,b,c],_=>exact⟨a,b,c,rfl⟩
 have hv0:=hX.val 0 v0 rfl
 have hv1:=hX.val 1 v1 rfl
 have hv2:=hX.val 2 v2 rfl
 have hobj: ∀o,e.ob o=AN [(0,.arr 1 rows),(1,.arr 1 [[.sc u]])] o:=λo=>by rw[hX.ob o];rfl
 have ho0:e.ob 0= .arr 1 rows:=by rw[hobj];rfl
 have ho1:e.ob 1= .arr 1 [[.sc u]]:=by rw[hobj];rfl
 have hno: ∀o c,e.ob o≠ .box c:=λo c h=>by
  rw[hobj]at h
  simp only[AN]at h
  split at h
  ·cases h
  ·split at h<;>cases h
 simp[AH,AT,AW,Aw]at hv0 hv1 hv2
 have hn0:e.node 0 []=some (1,rows):=by rw[BV ho0];rfl
 have hn1:e.node 1 []=some (1,[[.sc u]]):=by rw[BV ho1];rfl
 obtain rfl:v0=e.hd 0 []:=by cases hv0;rfl
 obtain rfl:v1= .int .i64 (i:Int):=by cases hv1;rfl
 obtain rfl:v2=e.hd 1 []:=by cases hv2;rfl
 obtain⟨ad,c,hh0,⟨hle,hc63⟩,hx0⟩:=hX.mem.node 0 [] 1 rows hn0
 obtain⟨ad2,vc,hh1,⟨hle2,_⟩,hx1⟩:=hX.mem.node 1 [] 1 _ hn1
 simp only[List.length_cons,List.length_nil,Nat.zero_add]at hle2 hh1
 obtain⟨vb,voff,rfl,hwv,_,hcv⟩:=hx1 (by omega)
 obtain⟨u',hu',hok⟩:=hcv 0 0 (.sc u) rfl
 obtain⟨rfl,husc⟩:=hok
 simp only[Nat.zero_mul,Nat.add_zero]at hu'
 have hvs: ∀ (j:Nat) v,[u'][j]? =some v->e.w.cell? ⟨vb,voff+j,none⟩=some v:=λj v h=>by
  cases j with
  |zero=>simp at h;subst h;exact hu'
  |succ j=>simp at h
 have hvp:PL [[T.sc u']] [u']:=⟨.inl ⟨u',rfl,rfl,husc⟩,trivial⟩
 have hbv:e.blk (.nd 1 [])=some vb:=AY hn1 (by rw[hh1];simp only[BC];rw[if_pos (by omega)])
 have hout:CN [.v (.own 1 rows),.v (.sc (.int .i64 (i:Int))),.v (.own 1 [[.sc u']])] {out:=[.v (.own 1 (rows.take i++[[.sc u']]++rows.drop i))],fin:=[none,none],pfin:=[]}=([.ref 2 []],[(2,.arr 1 (rows.take i++[[.sc u']]++rows.drop i))]):=by
  simp[CN,AH,AT,AW,B9,DG,C1,DC,Al]
 have hfl:An (rows.take i++[[.sc u']]++rows.drop i)=true:=by
  have: ∀ {a b:List (List T)},An (a++b)=(An a&&An b):=by
   intro a b
   induction a with
   |nil=>simp[An]
   |cons x a ih=>simp[An,ih,Bool.and_assoc]
  have h2:An (rows.take i)=true/\An (rows.drop i)=true:=by
   rw[<-List.take_append_drop i rows,this]at hflat
   simpa using hflat
  rw[this,this,h2.1,h2.2]
  rfl
 have hw0:=hX.w0
 have hk0:D7 fm.w0 fm.F e.w:=hX.mem.keeps
 have hlr:(rows.take i++[[T.sc u']]++rows.drop i).length=rows.length+1:=by simp;omega
 obtain⟨cs,hcs,hcw⟩: ∃cs:List Value,PL rows cs/\ ∀a,ad=some a-> ∀ (j:Nat) v,cs[j]? =some v->e.w.cell? (a.add j)=some v:=by
  by_cases h0:0<c
  ·obtain⟨b,off,rfl,_,hr,hcell⟩:=hx0 h0
   refine⟨(List.range rows.length).map λj=>(e.w.cell? ⟨b,off+j,none⟩).getD undef,PL.of hr λj d hd=> ?_,λa ha j v hj=> ?_⟩
   ·obtain⟨x,q1,q2⟩:=hcell j 0 d hd
    rw[Nat.mul_one,Nat.add_zero]at q1
    rw[q1]
    cases d with
    |sc s=>exact .inl ⟨s,rfl,q2.1,q2.2⟩
    |hole=>exact .inr ⟨rfl,q2⟩
    |sl k r=>exact absurd rfl (Dk hflat hd k r)
   ·cases ha
    rw[List.getElem?_map]at hj
    by_cases hjn:j<rows.length
    ·rw[List.getElem?_range hjn]at hj
     simp at hj
     have: ∃d,AI rows j 0=some d:=by
      have:=hr rows[j] (List.getElem_mem hjn)
      obtain⟨d,hd⟩:=List.length_eq_one_iff.1 this
      exact⟨d,by unfold AI;rw[List.getElem?_eq_getElem hjn,hd];rfl⟩
     obtain⟨d,hd⟩:=this
     obtain⟨x,q1,q2⟩:=hcell j 0 d hd
     rw[Nat.mul_one,Nat.add_zero]at q1
     rw[q1]at hj
     rw[BZ,q1,<-hj];rfl
    ·rw[List.getElem?_eq_none (by simp;omega)]at hj;cases hj
  ·have:rows=[]:=List.eq_nil_of_length_eq_zero (by omega)
   subst this
   exact⟨[],trivial,λa _ j v hj=>by simp at hj⟩
 have hcl:=hcs.len
 have hPL:PL (rows.take i++[[.sc u']]++rows.drop i) (cs.take i++[u']++cs.drop i):=((hcs.take i).append hvp).append (hcs.drop i)
 have hget: ∀ (j:Nat) v,(cs.take i++[u']++cs.drop i)[j]? =some v->(j<i/\cs[j]? =some v)\/(j=i/\v=u')\/(i<j/\(cs.drop i)[j - (i+1)]? =some v/\j<cs.length+1):=by
  intro j v h
  rw[List.append_assoc,List.getElem?_append]at h
  have hl:(cs.take i).length=i:=by simp;omega
  rw[hl]at h
  split at h
  ·rename_i hlt
   rw[List.getElem?_take,if_pos hlt]at h
   exact .inl ⟨hlt,h⟩
  ·rename_i hge
   by_cases hji:j=i
   ·subst hji
    simp at h
    exact .inr (.inl ⟨rfl,h.symm⟩)
   ·obtain⟨m,hm⟩: ∃m,j - i=m+1:=⟨j - i - 1,by omega⟩
    rw[hm]at h
    have h:(cs.drop i)[m]? =some v:=by simpa using h
    have hm2:m=j - (i+1):=by omega
    rw[<-hm2]
    refine .inr (.inr ⟨by omega,h,?_⟩)
    have:=(List.getElem?_eq_some_iff.1 h).1
    simp at this
    omega
 have fin: ∀ {b off C:Nat} {w':World},rows.length+1<=C->C<=9223372036854775807->(∀x,x<C->Wr w' b (off+x))->
   (∀ (j:Nat) v,(cs.take i++[u']++cs.drop i)[j]? =some v->w'.cell? ⟨b,off+j,none⟩=some v)->D7 fm.w0 fm.F w'->e.w.heap.size<=w'.heap.size->(b<w'.heap.size/\(fm.w0.heap.size<=b\/fm.F b)/\ ¬e.Im b)->
   ∃e',e'.w=w'/\KH fm e [.v (.own 1 rows),.v (.sc (.int .i64 (i:Int))),.v (.own 1 [[.sc u']])] {out:=[.v (.own 1 (rows.take i++[[.sc u']]++rows.drop i))],fin:=[none,none],pfin:=[]} e' (.slice (some ⟨b,off,none⟩) (rows.length+1) C):=by
  intro b off C w' h1 h2 h3 h4 h5 h6 h7
  refine WA hX hout (by simp[AH,AT,AW]) hno hfl h5 h6 (λsub=> ?_) (λx hx=> ?_)
  ·have:=hPL.node (w:=w') (b:=b) (off:=off) (c:=C) (by rw[hlr];exact⟨h1,h2⟩) h3 h4 sub
   rwa [hlr]at this
  ·simp only[BC]at hx
   rw[if_pos (by omega)]at hx
   cases hx
   exact h7
 rw[hh0,hh1]
 by_cases hroom:rows.length+1<=c
 ·
  obtain⟨b,off,rfl,hwr,_,_⟩:=hx0 (by omega)
  have hb0:e.blk (.nd 0 [])=some b:=AY hn0 (by rw[hh0];simp only[BC];rw[if_pos (by omega)])
  obtain⟨o1,o2,o3⟩:=hX.mem.own _ b hb0
  have hwr': ∀x,x<c->Wr e.w b (off+x):=λx hx=>hwr x (by omega)
  have hcs': ∀ (j:Nat) v,cs[j]? =some v->e.w.cell? ⟨b,off+j,none⟩=some v:=λj v hj=>by
   have:=hcw _ rfl j v hj
   rwa [BZ]at this
  by_cases hin:i<rows.length
  ·obtain⟨tA,kA,s1,_⟩:=(hwv 0 (by omega)).shape
   obtain⟨tB,kB,s2,s3⟩:=(hwr' 0 (by omega)).shape
   have hne:vb≠b:=λh=>by
    subst h
    have:=hX.mem.inj _ _ _ hbv hb0
    cases this
   refine Calls.mono (hC.shift b off rows.length c i vb voff 1 vc cs [u'] e.w hin (by omega) hroom hc63 hne hcl.symm rfl hcs' (λj hj=> ?_) (λj hj=>(hwr' j (by omega)).2 _) hvs hcs.one hvp.one tA tB kA kB s1 s2 s3 ((hwv 0 (by omega)).2 _) ((hwv 0 (by omega)).2 _)) λen w' hh=> ?_
   ·obtain⟨⟨y,hy⟩,_⟩:=hwr' j (by omega)
    rw[hy];rfl
   obtain⟨rfl,rfl⟩:=hh
   have t0:=F5 e.w b 0
   have hw1: ∀x,x<c->Wr e.w.drew b (off+x):=λx hx=>t0.wr (hwr' x hx)
   have hdl:(cs.drop i).length=rows.length - i:=by simp;omega
   have t1:BK e.w.drew _ b (off+(i+1)) (cs.drop i):=Ba λj hj=>by
    rw[Nat.add_assoc];exact hw1 _ (by omega)
   have hw2: ∀x,x<c->Wr _ b (off+x):=λx hx=>t1.wr (hw1 x hx)
   have t2:BK _ _ b (off+i) [u']:=Ba λj hj=>by
    rw[Nat.add_assoc];exact hw2 _ (by simp at hj;omega)
   refine fin hroom hc63 (λx hx=>t2.wr (hw2 x hx)) (λj v hj=> ?_) (((hk0.stored t0 o2).stored t1 o2).stored t2 o2) (by rw[t2.size,t1.size,t0.size];exact Nat.le_refl _) ⟨by rw[t2.size,t1.size,t0.size];exact o1,o2,o3⟩
   rcases hget j v hj with ⟨h1,h2⟩|⟨rfl,rfl⟩|⟨h1,h2,h3⟩
   ·rw[t2.same (by simp;omega),t1.same (by omega),t0.same (by simp)]
    exact hcs' j v h2
   ·exact t2.new (i:=0) rfl (hw2 _ (by omega))
   ·rw[t2.same (by simp;omega)]
    have:=t1.new h2 (by rw[show off+(i+1)+(j - (i+1))=off+j by omega];exact hw1 _ (by omega))
    rwa [show off+(i+1)+(j - (i+1))=off+j by omega]at this
  ·obtain rfl:i=rows.length:=by omega
   refine Calls.mono (hC.room b off rows.length c vb voff 1 vc [u'] e.w (by omega) hroom hc63 rfl (λj hj=> ?_) (λj hj=> ?_) hvs hvp.one) λen w' hh=> ?_
   ·obtain⟨⟨y,hy⟩,_⟩:=hwr' (rows.length+j) (by omega)
    rw[Nat.add_assoc,hy];rfl
   ·exact(hwr' 0 (by omega)).2 _
   obtain⟨rfl,rfl⟩:=hh
   have t2:BK e.w _ b (off+rows.length) [u']:=Ba λj hj=>by
    rw[Nat.add_assoc];exact hwr' _ (by simp at hj;omega)
   refine fin hroom hc63 (λx hx=>t2.wr (hwr' x hx)) (λj v hj=> ?_) (hk0.stored t2 o2) (by rw[t2.size];exact Nat.le_refl _) ⟨by rw[t2.size];exact o1,o2,o3⟩
   rcases hget j v hj with ⟨h1,h2⟩|⟨rfl,rfl⟩|⟨h1,h2,h3⟩
   ·rw[t2.same (by simp;omega)]
    exact hcs' j v h2
   ·exact t2.new (i:=0) rfl (hwr' _ (by omega))
   ·omega
 ·
  have hfresh: ¬e.Im e.w.heap.size:=λh=>by have:=(hX.mem.im _ h).1;omega
  have hgle:=Mc e.w (rows.length+1) c el
  have hgmax:grownCap e.w (rows.length+1) c el<=9223372036854775807:=grownCap_le_maxLen e.w (rows.length+1) c el (by unfold maxLen;omega)
  by_cases hin:i<rows.length
  ·obtain⟨b,off,rfl,hwr,_,_⟩:=hx0 (by omega)
   have hcs': ∀ (j:Nat) v,cs[j]? =some v->e.w.cell? ⟨b,off+j,none⟩=some v:=λj v hj=>by
    have:=hcw _ rfl j v hj
    rwa [BZ]at this
   refine Calls.mono (hC.grow b off rows.length c i vb voff 1 vc cs [u'] e.w hin (by omega) hle (by omega) (by omega) hcl.symm rfl hcs' hvs hcs.one hvp.one) λen w' hh=> ?_
   obtain⟨rfl,rfl⟩:=hh
   generalize hG:grownCap e.w (rows.length+1) c el=G at hgle hgmax
   generalize harr:(cs.take i).toArray++Builtin.zeroCells (Value.int .i64 0).cells (rows.length+1 - i)++Builtin.zeroCells (Value.int .i64 0).cells (G - (rows.length+1))=arr
   have hsize:arr.size=G:=by rw[<-harr];simp only[Array.size_append,NQ,List.size_toArray,List.length_take];omega
   have hg:Gu e.w (e.w.alloc (.cells arr el)) (.cells arr el (0,0)):=⟨rfl,rfl,rfl,rfl⟩
   have hwg: ∀x,x<G->Wr (e.w.alloc (.cells arr el)) e.w.heap.size x:=λx hx=>(hg.wr (HP _) (by omega)).1
   have t0:=F5 (e.w.alloc (.cells arr el)) e.w.heap.size 0
   have t1:BK _ _ e.w.heap.size i [u']:=Ba λj hj=>t0.wr (hwg (i+j) (by simp at hj;omega))
   have t2:=F5 ((e.w.alloc (.cells arr el)).drew.setCells e.w.heap.size i [u']) e.w.heap.size 0
   have hw2: ∀x,x<G->Wr _ e.w.heap.size x:=λx hx=>t2.wr (t1.wr (t0.wr (hwg x hx)))
   have hdl:(cs.drop i).length=rows.length - i:=by simp;omega
   have t3:BK _ _ e.w.heap.size (i+1) (cs.drop i):=Ba λj hj=>hw2 (i+1+j) (by omega)
   have hnewb:fm.w0.heap.size<=e.w.heap.size\/fm.F e.w.heap.size:= .inl hk0.size
   refine fin hgle hgmax (λx hx=>by rw[Nat.zero_add];exact t3.wr (hw2 x hx)) (λj v hj=> ?_) ((((D7.grew (fm:=fm) hk0 hg).stored t0 hnewb).stored t1 hnewb |>.stored t2 hnewb).stored t3 hnewb) (by rw[t3.size,t2.size,t1.size,t0.size,hg.size];omega) ⟨by rw[t3.size,t2.size,t1.size,t0.size,hg.size];omega,hnewb,hfresh⟩
   rw[Nat.zero_add]
   rcases hget j v hj with ⟨h1,h2⟩|⟨rfl,rfl⟩|⟨h1,h2,h3⟩
   ·rw[t3.same (by omega),t2.same (by simp),t1.same (by simp;omega),t0.same (by simp),(hg.wr (HP _) (by omega)).2,<-harr,Array.getElem?_append,if_pos (by simp;omega),Array.getElem?_append,if_pos (by simp;omega),List.getElem?_toArray,List.getElem?_take,if_pos h1]
    exact h2
   ·rw[t3.same (by omega),t2.same (by simp)]
    exact t1.new (i:=0) rfl (t0.wr (hwg _ (by omega)))
   ·have:=t3.new h2 (by rw[show i+1+(j - (i+1))=j by omega];exact hw2 _ (by omega))
    rwa [show i+1+(j - (i+1))=j by omega]at this
  ·obtain rfl:i=rows.length:=by omega
   refine Calls.mono (hC.endGrow ad rows.length c vb voff 1 vc cs [u'] e.w (by omega) hle (by omega) (by omega) hcl.symm rfl (λh=> ?_) hcw hvs hvp.one) λen w' hh=> ?_
   ·by_cases h0:0<c
    ·obtain⟨b,off,h1,_⟩:=hx0 h0
     rw[h]at h1;cases h1
    ·omega
   obtain⟨rfl,rfl⟩:=hh
   generalize hG:grownCap e.w (rows.length+1) c el=G at hgle hgmax
   generalize harr:(cs++[u']).toArray++Builtin.zeroCells (Value.int .i64 0).cells (G - (rows.length+1))=arr
   have hsize:arr.size=G:=by rw[<-harr];simp only[Array.size_append,NQ,List.size_toArray,List.length_append,List.length_cons,List.length_nil];omega
   have hg:Gu e.w (e.w.drew.alloc (.cells arr el)) (.cells arr el (0,0)):=⟨rfl,rfl,rfl,rfl⟩
   refine fin hgle hgmax (λx hx=>by rw[Nat.zero_add];exact(hg.wr (HP _) (by omega)).1) (λj v hj=> ?_) (D7.grew (fm:=fm) hk0 hg) (by rw[hg.size];omega) ⟨by rw[hg.size];omega,.inl hk0.size,hfresh⟩
   have hjl:j<rows.length+1:=by
    have:=(List.getElem?_eq_some_iff.1 hj).1
    simp at this
    omega
   rw[Nat.zero_add,(hg.wr (HP _) (by omega)).2,<-harr,Array.getElem?_append,if_pos (by simp;omega),List.getElem?_toArray,<-hj]
   congr 1
   rw[List.take_of_length_le (by omega),List.drop_eq_nil_of_le (by omega),List.append_nil]
def insK:List Arg->Option Res
 |[.v (.own 1 rows),.v (.sc (.int .i64 a)),.v (.own 1 [[.sc u]])]=>if An rows=true/\0<=a/\a<=rows.length/\(rows.length+1)*8<=35184372088832 then some {out:=[.v (.own 1 (rows.take a.toNat++[[.sc u]]++rows.drop a.toNat))],fin:=[none,none],pfin:=[]} else none
 |_=>none
theorem insK_ok {P:Program} {f:Nat} {el:TypeId} (hE:FB P f) (hC:InsC P f el) {args:List Arg} {r:Res} (h:insK args=some r):FB P f/\KJ P f args r:=by
 unfold insK at h
 split at h
 ·rename_i rows a u
  obtain⟨⟨h0,h1,h2,h3⟩,h⟩:=A8 h
  cases h
  obtain⟨i,rfl⟩: ∃i:Nat,a=i:=⟨a.toNat,by omega⟩
  exact ins_ok hE hC h0 (by omega) h3
 ·cases h
theorem insK_eq (l:List Int) (k:Nat) (a:Int) (hk:k<=l.length) (hl:l.length<=1048576):insK [.v (.own 1 (enc fI l)),.v (.sc (.int .i64 k)),.v (.own 1 [[.sc (.int .i64 a)]])]=some ⟨[.v (.own 1 (enc fI (l.take k++[a]++l.drop k)))],[none,none],[]⟩:=by
 unfold insK
 simp only
 rw[if_pos ⟨Fh (λ_=>rfl) _,by omega,by rw[Bx];omega,by rw[Bx];omega⟩]
 simp only[Int.toNat_natCast,Ax,CA,<-AU]
 simp[enc]
end Go.Proofs.YtghgecpicnfgpaaGreat.Ow
