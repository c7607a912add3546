/- slices.Delete, out of its contract: rows are taken out of a row's midst; what lies in the cells moves along. -/
import Derived.Test.YtghgecpicnfgpaaGreatInsM
namespace Go.Proofs.YtghgecpicnfgpaaGreat.Ow
open Go
set_option linter.unusedVariables false
set_option linter.unusedSimpArgs false
variable {P:Program} {fm:Fm} {e:Env}
def DelC (P:Program) (f k:Nat):Prop:=
 ∀ (b off n c i j:Nat) (us:Nat->Value) (w:World),i<j->j<=n->n<=c->c<=9223372036854775807->(∀x,x<c*k->Wr w b (off+x))->(∀x,x<n*k->w.cell? ⟨b,off+x,none⟩=some (us x)/\(us x).oneCell'=true)->
  Calls P f #[.slice (some ⟨b,off,none⟩) n c,.int .i64 i,.int .i64 j] w λe w'=>e= .returned (.slice (some ⟨b,off,none⟩) (i+(n - j)) c)/\
   ∃zs:List Value,zs.length=(j - i)*k/\w'=(w.drew.setCells b (off+i*k) ((List.range ((n - j)*k)).map λx=>us (j*k+x))).setCells b (off+(i+(n - j))*k) zs
def mvr (i j r:Nat):Nat:=if r<i then r else r+(j - i)
def mvp (i j:Nat):AQ->AQ
 |[]=>[]
 |(r,q)::p=>(mvr i j r,q)::p
theorem mvr_inj {i j r r':Nat} (h:mvr i j r=mvr i j r'):r=r':=by unfold mvr at h;split at h<;>split at h<;>omega
theorem mvp_inj {i j:Nat}: ∀ {p p':AQ},mvp i j p=mvp i j p'->p=p'
 |[],[],_=>rfl
 |(r,q)::p,(r',q')::p',h=>by
  simp only[mvp,List.cons.injEq,Prod.mk.injEq]at h
  rw[mvr_inj h.1.1,h.1.2,h.2]
 |[],(_,_)::_,h=>by simp[mvp]at h
 |(_,_)::_,[],h=>by simp[mvp]at h
theorem TQ {i j:Nat}: ∀ {p:AQ} {x:Nat×Nat},p≠[]->mvp i j (p++[x])=mvp i j p++[x]
 |[],_,h=>absurd rfl h
 |(r,q)::p,x,_=>rfl
theorem Si {rows:List (List T)} {i j:Nat} (hij:i<j) (hj:j<=rows.length) (r q:Nat):AI (rows.take i++rows.drop j) r q=AI rows (mvr i j r) q:=by
 have hl:(rows.take i).length=i:=by simp;omega
 unfold AI mvr
 rw[List.getElem?_append,hl]
 by_cases h:r<i
 ·rw[if_pos h,if_pos h,List.getElem?_take,if_pos h]
 ·rw[if_neg h,if_neg h,List.getElem?_drop,show j+(r - i)=r+(j - i)by omega]
theorem del_ok {f k:Nat} (hE:FB P f) (hC:DelC P f k) {rows:List (List T)} {i j:Nat} (hij:i<j) (hj:j<=rows.length):
  FB P f/\KJ P f [.v (.own k rows),.v (.sc (.int .i64 (i:Int))),.v (.sc (.int .i64 (j:Int)))] {out:=[.v (.own k (rows.take i++rows.drop j))],fin:=[none],pfin:=[]}:=by
 refine⟨hE,λfm e vs hX=> ?_⟩
 obtain⟨v0,v1,v2,rfl⟩: ∃a b c,vs=[a,b,c]:=by
  have hlen:=hX.len
  match vs,hlen with
  |[a,b,c],_=>exact⟨a,b,c,rfl⟩
 have hv0:=hX.val 0 v0 rfl
 have hv1:=hX.val 1 v1 rfl
 have hv2:=hX.val 2 v2 rfl
 have hobj: ∀o,e.ob o=AN [(0,.arr k rows)] o:=λo=>by rw[hX.ob o];rfl
 have ho0:e.ob 0= .arr k rows:=by rw[hobj];rfl
 have hno: ∀o c,e.ob o≠ .box c:=λo c h=>by
  rw[hobj]at h
  simp only[AN]at h
  split at h<;>cases h
 simp[AH,AT,AW,Aw]at hv0 hv1 hv2
 have hn0:e.node 0 []=some (k,rows):=by rw[BV ho0];rfl
 obtain rfl:v0=e.hd 0 []:=by cases hv0;rfl
 obtain rfl:v1= .int .i64 (i:Int):=by cases hv1;rfl
 obtain rfl:v2= .int .i64 (j:Int):=by cases hv2;rfl
 obtain⟨ad,c,hh0,⟨hle,hc63⟩,hx0⟩:=hX.mem.node 0 [] k rows hn0
 obtain⟨b,off,rfl,hwr,hkr,hcell⟩:=hx0 (by omega)
 have hb0:e.blk (.nd 0 [])=some b:=AY hn0 (by rw[hh0];simp only[BC];rw[if_pos (by omega)])
 obtain⟨o1,o2,o3⟩:=hX.mem.own _ b hb0
 have hus: ∀x,x<rows.length*k->e.w.cell? ⟨b,off+x,none⟩=some ((e.w.cell? ⟨b,off+x,none⟩).getD undef)/\((e.w.cell? ⟨b,off+x,none⟩).getD undef).oneCell'=true:=λx hx=>by
  obtain⟨i',j',rfl,hi',hj'⟩:=CB hx
  obtain⟨d,hd⟩:=Dz hkr hi' hj'
  obtain⟨u,hu,hok⟩:=hcell i' j' d hd
  rw[hu]
  refine⟨rfl,hok.oneCell λk1 r1 h=> ?_⟩
  subst h
  exact(hX.mem.node 0 [(i',j')] k1 r1 (by rw[BV ho0];simp only[AM,hd])).one
 rw[hh0]
 refine Calls.mono (hC b off rows.length c i j _ e.w hij hj hle hc63 hwr hus) λen w' hh=> ?_
 obtain⟨rfl,zs,hz,rfl⟩:=hh
 generalize hls:((List.range ((rows.length - j)*k)).map λx=>(e.w.cell? ⟨b,off+(j*k+x),none⟩).getD undef)=ls
 have hll:ls.length=(rows.length - j)*k:=by rw[<-hls];simp
 have m1:i*k+(rows.length - j)*k<=c*k:=by rw[<-Nat.add_mul];exact Nat.mul_le_mul_right _ (by omega)
 have m2:(i+(rows.length - j))*k+(j - i)*k<=c*k:=by rw[<-Nat.add_mul];exact Nat.mul_le_mul_right _ (by omega)
 have t0:=F5 e.w b 0
 have hw1: ∀x,x<c*k->Wr e.w.drew b (off+x):=λx hx=>t0.wr (hwr x hx)
 have t1:BK e.w.drew _ b (off+i*k) ls:=Ba λx hx=>by
  rw[Nat.add_assoc];exact hw1 _ (by omega)
 have hw2: ∀x,x<c*k->Wr _ b (off+x):=λx hx=>t1.wr (hw1 x hx)
 have t2:BK _ _ b (off+(i+(rows.length - j))*k) zs:=Ba λx hx=>by
  rw[Nat.add_assoc];exact hw2 _ (by omega)
 have hoth: ∀x,x≠b->_:=λx hx=>(t2.other x hx).trans ((t1.other x hx).trans (t0.other x hx))
 have hsize:=t2.size.trans (t1.size.trans t0.size)
 have hkeep:=((hX.mem.keeps.stored t0 o2).stored t1 o2).stored t2 o2
 have hw3: ∀x,x<c*k->Wr _ b (off+x):=λx hx=>t2.wr (hw2 x hx)
 have hcells: ∀r q,r<i+(rows.length - j)->q<k->World.cell? _ ⟨b,off+(r*k+q),none⟩=e.w.cell? ⟨b,off+(mvr i j r*k+q),none⟩:=λr q hr hq=>by
  have h1:r*k+q<(i+(rows.length - j))*k:=Cl hr hq
  rw[t2.same (by omega)]
  unfold mvr
  by_cases hri:r<i
  ·have h2:r*k+q<i*k:=Cl hri hq
   rw[if_pos hri,t1.same (by omega),t0.same (by simp)]
  ·have h2:i*k<=r*k:=Nat.mul_le_mul_right _ (by omega)
   have h3:(r - i)*k+q<(rows.length - j)*k:=Cl (by omega) hq
   have h4:(r - i)*k+i*k=r*k:=by rw[<-Nat.add_mul,Nat.sub_add_cancel (by omega)]
   have h5:ls[(r - i)*k+q]? =some ((e.w.cell? ⟨b,off+(j*k+((r - i)*k+q)),none⟩).getD undef):=by
    rw[<-hls,List.getElem?_map,List.getElem?_range h3];rfl
   have h6:=t1.new h5 (by rw[show off+i*k+((r - i)*k+q)=off+(r*k+q)by omega];exact hw1 _ (by omega))
   rw[show off+i*k+((r - i)*k+q)=off+(r*k+q)by omega]at h6
   have h7:j*k+((r - i)*k+q)=(r+(j - i))*k+q:=by
    rw[show r+(j - i)=j+(r - i)by omega,Nat.add_mul];omega
   have h8:(r+(j - i))*k+q<rows.length*k:=Cl (by omega) hq
   rw[if_neg hri,h6,h7]
   exact(hus _ h8).1.symm
 generalize hW:(World.setCells _ b (off+(i+(rows.length - j))*k) zs)=W at t2 hoth hsize hkeep hw3 hcells ⊢
 clear t1 t2 hw2
 have hrl:(rows.take i++rows.drop j).length=i+(rows.length - j):=by simp;omega
 let e':Env:={w:=W,ob:=λo=>if o=1 then .arr k (rows.take i++rows.drop j)else .none,hd:=λ_ p=>if p=[]then .slice (some ⟨b,off,none⟩) (i+(rows.length - j)) c else e.hd 0 (mvp i j p),bk:=λ_=>0,Im:=e.Im,tk:=e.tk}
 have hob: ∀o,e'.ob o=if o=1 then .arr k (rows.take i++rows.drop j)else .none:=λ_=>rfl
 have hhd: ∀ {p},p≠[]->e'.hd 1 p=e.hd 0 (mvp i j p):=λh=>by simp[e',h]
 have hnd1: ∀ {p},p≠[]->e'.node 1 p=e.node 0 (mvp i j p):=λ{p} h=>by
  rw[BV (rows0:=rows.take i++rows.drop j) (k0:=k) (by rw[hob,if_pos rfl]),BV ho0]
  match p,h with
  |(r,q)::p,_=>
   simp only[AM,mvp]
   rw[Si hij hj]
 have hnd0:e'.node 1 []=some (k,rows.take i++rows.drop j):=by rw[BV (rows0:=rows.take i++rows.drop j) (k0:=k) (by rw[hob,if_pos rfl])];rfl
 have hnd: ∀ {o p x},e'.node o p=some x->o=1:=λ{o p x} h=>by
  by_cases ho:o=1
  ·exact ho
  ·unfold Env.node at h
   rw[hob,if_neg ho]at h;cases h
 have hnb: ∀ {o c},e'.ob o≠ .box c:=λ{o c} h=>by rw[hob]at h;split at h<;>cases h
 have hbl: ∀ {l x},e'.blk l=some x-> ∃p,l= .nd 1 p/\e.blk (.nd 0 (mvp i j p))=some x:=by
  intro l x h
  cases l with
  |nd o p=>
   obtain⟨k1,r1,h1,h2⟩:=E9 h
   obtain rfl:=hnd h1
   refine⟨p,rfl,?_⟩
   by_cases hp:p=[]
   ·subst hp
    have:x=b:=by
     have h2:BC (.slice (some ⟨b,off,none⟩) (i+(rows.length - j)) c)=some x:=h2
     simp only[BC]at h2
     rw[if_pos (by omega)]at h2
     cases h2;rfl
    rw[this];exact hb0
   ·rw[hnd1 hp]at h1
    rw[hhd hp]at h2
    exact AY h1 h2
  |bx o=>
   obtain⟨c,h1,_⟩:=Dv h
   exact absurd h1 hnb
 have hout:CN [.v (.own k rows),.v (.sc (.int .i64 (i:Int))),.v (.sc (.int .i64 (j:Int)))] {out:=[.v (.own k (rows.take i++rows.drop j))],fin:=[none],pfin:=[]}=([.ref 1 []],[(1,.arr k (rows.take i++rows.drop j))]):=by
  simp[CN,AH,AT,AW,B9,DG,C1,DC,Al]
 refine⟨e',rfl,⟨⟨λo cs h=>absurd h hnb,λo p k1 r1 h=> ?_,λl l' x h h'=> ?_,λl x h=> ?_,λx hx=> ?_,hX.mem.im0,hkeep,hX.mem.tk⟩,λo=> ?_,λo k1 r1 ho h=> ?_,λo c0 _ h=>absurd h (hno o c0),λo c _ h=>absurd h hnb,?_⟩⟩
 ·obtain rfl:=hnd h
  by_cases hp:p=[]
  ·subst hp
   rw[hnd0]at h
   cases h
   refine⟨_,c,by rw[hrl];simp[e'],by rw[hrl];exact⟨by omega,hc63⟩,λ_=>⟨b,off,rfl,hw3,λr hr=> ?_,λr q d hd=> ?_⟩⟩
   ·rcases List.mem_append.1 hr with h1|h1
    ·exact hkr r (List.mem_of_mem_take h1)
    ·exact hkr r (List.mem_of_mem_drop h1)
   ·have hd0:=hd
    rw[Si hij hj]at hd
    obtain⟨x,hx,hq⟩:=AZ hd0
    have hr:=(List.getElem?_eq_some_iff.1 hx).1
    have hxk:x.length=k:=by
     rcases List.mem_append.1 (List.mem_of_getElem? hx)with h1|h1
     ·exact hkr x (List.mem_of_mem_take h1)
     ·exact hkr x (List.mem_of_mem_drop h1)
    obtain⟨u,hu,hok⟩:=hcell _ q d hd
    refine⟨u,(hcells r q (by omega) (by rw[<-hxk];exact(List.getElem?_eq_some_iff.1 hq).1)).trans hu,?_⟩
    simpa[e',mvp]using hok
  ·rw[hnd1 hp]at h
   rw[hhd hp]
   refine Bq.congr (hX.mem.node 0 _ k1 r1 h) (Ev.refl _) (λx hx=>hoth x λhxb=> ?_) λr q k2 r2 _=> ?_
   ·subst hxb
    have:=hX.mem.inj _ _ _ hb0 (AY h hx)
    simp only[Pl.nd.injEq,true_and]at this
    match p,hp,this with
    |(_,_)::_,_,h=>simp[mvp]at h
   ·rw[hhd (by simp),TQ hp]
 ·obtain⟨p,rfl,h1⟩:=hbl h
  obtain⟨p',rfl,h2⟩:=hbl h'
  have:=hX.mem.inj _ _ _ h1 h2
  simp only[Pl.nd.injEq,true_and]at this
  rw[mvp_inj this]
 ·obtain⟨p,rfl,h1⟩:=hbl h
  obtain⟨q1,q2,q3⟩:=hX.mem.own _ x h1
  exact⟨by rw[show e'.w=W from rfl,hsize];exact q1,q2,q3⟩
 ·have:=hX.mem.im x hx
  exact⟨by rw[show e'.w=W from rfl,hsize];exact this.1,this.2⟩
 ·rw[hout,hob]
  simp only[AN]
 ·have:o<1:=ho
  rw[hob,if_neg (by omega)]at h;cases h
 ·rw[hout]
  have:AS e' (.ref 1 []) (e'.hd 1 []):= .ref 1 [] k _ hnd0
  simpa[e']using this
theorem Tz {P:Program} {t e:TypeId} {z:Value} {k:Nat} (ht:P.underlying t=some (.slice e)) (hv: ∀w,(zeroValue e).run P w= .ok z w) (hz:z.cells.size=k) (h1: ∀u∈z.cells.toList,u.oneCell'=true) (ty:TypeId) (b o n c:Nat) (hn:0<n) (w:World)
  (hc: ∀j,j<n*k->(w.cell? ⟨b,o+j,none⟩).isSome=true) (hf: ∀j,j<n*k->w.frozen? ⟨b,o+j,none⟩=false):
  ∃zs:List Value,zs.length=n*k/\(Builtin.clear_ #[t] ty #[.slice (some ⟨b,o,none⟩) n c]).run P w= .ok (.tuple #[]) (w.setCells b o zs):=by
 have hl:(Builtin.zeroCells z.cells n).toList.length=n*k:=by simp[Builtin.zeroCells,hz]
 have hone: ∀u∈(Builtin.zeroCells z.cells n).toList,u.oneCell'=true:=λu hu=>by
  rw[Builtin.zeroCells]at hu
  simp at hu
  obtain⟨m,hm,rfl⟩:=hu
  have hk:0<z.cells.size:=by
   rcases Nat.eq_zero_or_pos z.cells.size with h|h
   ·rw[h]at hm;omega
   ·exact h
  have:m%z.cells.size<z.cells.size:=Nat.mod_lt _ hk
  rw[getElem!_pos z.cells _ this]
  exact h1 _ (by simp)
 have hst:=run_storeCells_cells (P:=P) b o (Builtin.zeroCells z.cells n).toList 0 w (by simpa[hl]using hc) (by simpa[hl]using hf) hone
 simp only[Nat.add_zero]at hst
 obtain⟨m,rfl⟩: ∃m,n=m+1:=⟨n - 1,by omega⟩
 refine⟨_,hl,?_⟩
 simp[Builtin.clear_,AR ht,hv,hst]
theorem zeroOne {P:Program} {t:TypeId} {cs:List AV} (h:Bc P t=some cs) (hs: ∀f,.clo f []∉cs): ∃zv:Value,(∀w,(zeroValue t).run P w= .ok zv w)/\zv.cells.size=cs.length/\ ∀u∈zv.cells.toList,u.oneCell'=true:=by
 obtain⟨i,zv,h1,h2,h3,h4⟩:=EW h
 refine⟨zv,λw=>by simp[zeroValue,typeInfo,h1,h2],h3.symm,λu hu=> ?_⟩
 obtain⟨j,hj,rfl⟩:=List.getElem_of_mem hu
 simp only[Array.length_toList]at hj
 obtain⟨c,hc⟩:=AF (l:=cs) (i:=j) (by rw[h3];exact hj)
 obtain⟨t',v,f1,f2⟩:=h4 j c hc
 rw[Array.getElem?_eq_getElem hj]at f1
 cases f1
 rw[Array.getElem_toList]
 rcases Fi f2 with ⟨k3,_,f3⟩|⟨_,f3⟩|⟨f,f3⟩
 ·rw[f3];rfl
 ·cases hzz:zv.cells[j]<;>rw[hzz]at f3<;>first|rfl|(simp[ES]at f3)
 ·subst f3
  exact absurd (List.mem_of_getElem? hc) (hs f)
theorem Md (b:Nat): ∀ (vs:List Value) (o:Nat) (w:World) (q:Addr),(w.cell? q).isSome=true->((w.setCells b o vs).cell? q).isSome=true
 |[],_,_,_,h=>h
 |v::r,o,w,q,h=>by
  rw[World.setCells]
  obtain⟨u,hu⟩:=Option.isSome_iff_exists.mp h
  obtain⟨u',hu'⟩:=RowKit.cell?_setCell_some (p:=⟨b,o,none⟩) (x:=v) hu
  exact Md b r (o+1) _ q (by rw[hu'];rfl)
theorem SL (b:Nat): ∀ (vs:List Value) (o:Nat) (w:World) (q:Addr),(w.setCells b o vs).frozen? q=w.frozen? q:=by
 intro vs
 induction vs with
 |nil=>intro o w q;rfl
 |cons v vs ih=>intro o w q;exact(ih (o+1) _ q).trans (by simp)
def delK (k:Nat):List Arg->Option Res
 |[.v (.own k' rows),.v (.sc (.int .i64 a)),.v (.sc (.int .i64 b))]=>if k'=k/\0<=a/\a<b/\b<=rows.length then some {out:=[.v (.own k (rows.take a.toNat++rows.drop b.toNat))],fin:=[none],pfin:=[]} else none
 |_=>none
theorem delK_ok {P:Program} {f k:Nat} (hE:FB P f) (hC:DelC P f k) {args:List Arg} {r:Res} (h:delK k args=some r):FB P f/\KJ P f args r:=by
 unfold delK at h
 split at h
 ·rename_i k' rows a b
  obtain⟨⟨rfl,h1,h2,h3⟩,h⟩:=A8 h
  cases h
  obtain⟨i,rfl⟩: ∃i:Nat,a=i:=⟨a.toNat,by omega⟩
  obtain⟨j,rfl⟩: ∃j:Nat,b=j:=⟨b.toNat,by omega⟩
  exact del_ok hE hC (by omega) (by omega)
 ·cases h
theorem delK_eq (k:Nat) (rows:List (List T)) (i:Nat) (h:i<rows.length):delK k [.v (.own k rows),.v (.sc (.int .i64 i)),.v (.sc (.int .i64 (i+1:Nat)))]=some ⟨[.v (.own k (rows.take i++rows.drop (i+1)))],[none],[]⟩:=by
 unfold delK
 simp only
 rw[if_pos ⟨by trivial,by omega,by omega,by omega⟩]
 rfl
end Go.Proofs.YtghgecpicnfgpaaGreat.Ow
