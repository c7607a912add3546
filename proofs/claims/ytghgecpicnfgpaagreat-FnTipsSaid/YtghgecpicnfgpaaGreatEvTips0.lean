/- Functions evaluated on the small machine: Tips of writes, what is told of depths, Each write is within a tip; no tip is within another one, FnTips: evaluated. -/
import Derived.Test.YtghgecpicnfgpaaGreatEv36
import Derived.Test.YtghgecpicnfgpaaGreatEv28
namespace Go.Proofs.YtghgecpicnfgpaaGreat.Ow
open Go
set_option linter.unusedVariables false
set_option linter.unusedSimpArgs false
set_option maxHeartbeats 16000000
set_option maxRecDepth 100000
@[simp] def st93 (F:Nat) (c:List T) (l:List Dw) (j:Nat):St:={n:=19,m:=0,tm:=[(0,.im 2 (enc fR l)),(1,.clo F [.pim c]),(7,.sc (I6 l.length)),(8,.sc (I6 j))],ob:=[]}
theorem ev_IndexFuncR [PKI] (F:Nat) (c:List T) (q:Dw->Bool) (l:List Dw) (hl:l.length<=1048576) (hF:md F=[]) (e: ∀x,sG F [.a (AD (fR x)),.pi c]=some ⟨[.v (.sc (.bool (q x)))],[],[]⟩):
  sG 93 [.v (.im 2 (enc fR l)),.c F [c]]=some ⟨[.v (.sc (I6 (FL (λj=> !q (l.getD j zR)) l.length)))],[],[]⟩:=by
 refine sK p93 ?_
 obtain⟨k,hk,hp,hkn⟩:=first (λj=>(!q (l.getD j zR))=true) l.length
 have hstep: ∀j,j<k-> ∃s',xG b93_0 (st93 F c l j)=some (.normal,s')/\s'.m<=10000000/\Aa 10000000 [0,1,7,8] s'=st93 F c l (j+1):=λj hj=>by
  have hlt:j<l.length:=by omega
  have h1:(!q (l.getD j zR))=true:=hp j hj;obtain⟨x,_,hx,hx',hd,_⟩:=AX l zR (j:=j) (by omega);rw[hd]at h1;have h2:q x=false:=by simpa using h1
  have e:=e x;rw[h2]at e;simp only[AD,lent,fR]at e;simp[-md,b93_0,hF,hlt,Ar hlt hl,hx',e]
 rcases hkn with rfl|⟨hlt,hn⟩
 ·have hsz:= @lok _ 10000000 [0,1,7,8] b93_0 (st93 F c l) (l.length) hstep (by simp[-md,b93_0,hF])
  rw[CJ hp]
  simp[-md,p93,hF]
  rw[hsz]
  ·simp[-md,b93_0,hF]
  ·simp
  ·simp
 ·have h1:(!q (l.getD k zR))=false:=by simpa using hn
  rw[BX hlt hp h1]
  obtain⟨x,_,hx,hx',hd,_⟩:=AX l zR (j:=k) (by omega)
  rw[hd]at h1
  have h2:q x=true:=by simpa using h1
  have e:=e x
  rw[h2]at e
  simp only[AD,lent,fR]at e
  have hsz:= @lok _ 10000000 [0,1,7,8] b93_0 (st93 F c l) (k) hstep (by simp[-md,b93_0,hF,hlt,hx',e])
  simp[-md,p93,hF]
  rw[hsz]
  ·simp[-md,b93_0,hF,hlt,hx',e]
  ·simp
  ·simp
def usedB (log:List Dw) (n:Int):Bool:= !(log.all λr=> !decide (r.up=n))
theorem ev_Tips1 [PKI] (n:Int) (r:Dw):sG 49 [.a (AD (fR r)),.pi [.sc (I6 n)]]=some ⟨[.v (.sc (.bool (decide (r.up=n))))],[],[]⟩:=by
 refine sK p49 ?_;rcases tfb r.up n with ⟨c1,d1⟩|⟨c1,d1⟩<;>simp[p49,  c1,d1]
theorem ev_ContainsFuncR [PKI] (l:List Dw) (n:Int) (hl:l.length<=1048576):sG 48 [.v (.im 2 (enc fR l)),.c 49 [[.sc (I6 n)]]]=some ⟨[.v (.sc (.bool (usedB l n)))],[],[]⟩:=by
 refine sK p48 ?_;have e:=ev_IndexFuncR 49 [.sc (I6 n)] (λr=>decide (r.up=n)) l hl rfl (λr=>ev_Tips1 n r);unfold usedB;rw[<-Vr (λr=> !decide (r.up=n)) zR l,<-Gj];simp[p48,  e]
def tipsJ (log:List Dw) (j:Nat):LI:=((List.range j).map λi:Nat=>(i:Int)+1).filter λn=> !usedB log n
def tips (log:List Dw):LI:=tipsJ log log.length
theorem tipsJ_succ (log:List Dw) (j:Nat):tipsJ log (j+1)=tipsJ log j++(if usedB log ((j:Int)+1)then []else [(j:Int)+1]):=by
 unfold tipsJ;rw[List.range_succ,List.map_append,List.filter_append]
 cases h:usedB log ((j:Int)+1)<;>simp[h]
theorem tipsJ_len (log:List Dw) (j:Nat):(tipsJ log j).length<=j:=by
 unfold tipsJ;exact Nat.le_trans (List.length_filter_le _ _) (by simp)
@[simp] def st22 (w:AB) (o:LI) (j:Nat):St:={n:=24,m:=0,tm:=[(1,.pb 10000000 0),(3,.ref 10000001 []),(4,.pb 10000002 0)],ob:=[(10000000,Ey w),(10000001,.arr 1 (enc fI o)),(10000002,.box [.sc (I6 ((j:Int)+1))])]}
theorem ev_impl_Tips [PKI] (w:AB) (hl:w.log.length<=1048576):sG 22 [.a (AD (fWo w))]=some ⟨[.v (.own 1 (enc fI (tips w.log)))],[],[]⟩:=by
 refine sK p22 ?_;have hnle: ¬ (w.log.length:Int)+1<=w.log.length:=by omega
 have hlp:= @lok _ 10000000 [1,3,4] b22_0 (λj=>st22 w (tipsJ w.log j) j) w.log.length (λj hj=>by
  have hle:(j:Int)+1<=w.log.length:=by omega
  have e:=ev_ContainsFuncR w.log ((j:Int)+1) hl;have hlen:=tipsJ_len w.log j;have w2:IntKind.wrap .i64 ((j:Int)+1+1)=(j:Int)+1+1:=AC (by omega) (by omega);simp only[tipsJ_succ];generalize tipsJ w.log j=o at*;have g1:(o.length+1)*8<=35184372088832:=by omega
  have hen:enc fI o++[[T.sc (I6 ((j:Int)+1))]]=enc fI (o++[(j:Int)+1]):=by simp[enc]
  cases hu:usedB w.log ((j:Int)+1)<;>rw[hu]at e<;>simp (maxSteps:=9999999) [b22_0,  hle,w2,e,g1,hen]) (by simp[b22_0,hnle])
 have h0:tipsJ w.log 0=[]:=rfl;simp[p22,  CV];rw[hlp]
 ·simp[b22_0,hnle,tips]
 ·simp
 ·simp[h0]
@[simp] def st23_0 (w:AB) (o:LI) (i:Nat) (u:Bool) (j:Nat):St:={n:=40,m:=0,tm:=[(1,.pb 10000200 0),(3,.ref 10000201 []),(4,.sc (I6 ((i:Int)+1))),(5,.sc (.bool u)),(6,.sc (I6 j))],ob:=[(10000200,Ey w),(10000201,.arr 1 (enc fI o))]}
@[simp] def st23_1 (w:AB) (o:LI) (j:Nat):St:={n:=40,m:=0,tm:=[(1,.pb 10000000 0),(3,.ref 10000001 []),(4,.sc (I6 ((j:Int)+1)))],ob:=[(10000000,Ey w),(10000001,.arr 1 (enc fI o))]}
theorem lp_spec_Tips0 [PKI] (w:AB) (hl:w.log.length<=1048576) (o:LI) (i:Nat): ∀ (t:St),t.m<=10000200->Aa 10000200 [1,3,4,5,6] t=st23_0 w o i false 0->A6 G PK md 10000200 [1,3,4,5,6] b23_0 t=xG b23_0 (st23_0 w o i (usedB w.log ((i:Int)+1)) w.log.length):=by
 have hf:w.log.take w.log.length=w.log:=List.take_length;have h:= @lok _ 10000200 [1,3,4,5,6] b23_0 (λj=>st23_0 w o i (usedB (w.log.take j) ((i:Int)+1)) j) w.log.length (λj hj=>by
  obtain⟨r,y1,hr,hr',_,_⟩:=AX w.log zR hj;have hinc:=Ar hj hl;have hsn:usedB (w.log.take (j+1)) ((i:Int)+1)=(usedB (w.log.take j) ((i:Int)+1)||decide (r.up=(i:Int)+1)):=by
   unfold usedB;rw[DJ hr,List.all_append]
   cases h:(w.log.take j).all (λr=> !decide (r.up=(i:Int)+1))<;>simp
  simp only[hsn];generalize usedB (w.log.take j) ((i:Int)+1)=u;rcases tfb r.up ((i:Int)+1)with ⟨c1,d1⟩|⟨c1,d1⟩<;>cases u<;>simp[b23_0,  hj,hr',hinc,c1,d1]) (by simp[b23_0])
 simp only[hf]at h;exact h
theorem ev_spec_Tips [PKI] (w:AB) (hl:w.log.length<=1048576):sG 23 [.a (AD (fWo w))]=some ⟨[.v (.own 1 (enc fI (tips w.log)))],[],[]⟩:=by
 refine sK p23 ?_;have hnle: ¬ (w.log.length:Int)+1<=w.log.length:=by omega
 have hlp:= @lok _ 10000000 [1,3,4] b23_1 (λj=>st23_1 w (tipsJ w.log j) j) w.log.length (λj hj=>by
  have hle:(j:Int)+1<=w.log.length:=by omega
  have hlen:=tipsJ_len w.log j;have w2:IntKind.wrap .i64 ((j:Int)+1+1)=(j:Int)+1+1:=AC (by omega) (by omega);simp only[tipsJ_succ];generalize tipsJ w.log j=o at*;have hl0:=lp_spec_Tips0 w hl o j;have g1:(o.length+1)*8<=35184372088832:=by omega
  have hen:enc fI o++[[T.sc (I6 ((j:Int)+1))]]=enc fI (o++[(j:Int)+1]):=by simp[enc]
  generalize usedB w.log ((j:Int)+1)=u at*;simp[b23_1,  hle];rw[hl0]
  ·cases u<;>simp (maxSteps:=9999999) [b23_0,  w2,g1,hen]
  ·simp
  ·simp) (by simp[b23_1,hnle])
 have h0:tipsJ w.log 0=[]:=rfl;simp[p23,  CV];rw[hlp]
 ·simp[b23_1,hnle,tips]
 ·simp
 ·simp[h0]
def tlF (log:List Dw) (o n:Int):Int:=max o (chain log n).length
@[simp] def st24 (w:AB) (o:Int) (j:Nat):St:={n:=20,m:=0,tm:=[(1,.pb 10000000 0),(3,.sc (I6 o)),(7,.im 1 (enc fI w.safe)),(8,.sc (I6 w.safe.length)),(9,.sc (I6 j))],ob:=[(10000000,Ey w)]}
theorem ev_impl_Told [PKI] (w:AB) (hl:w.log.length<=1048576) (hs:w.safe.length<=1048576):sG 24 [.a (AD (fWo w))]=some ⟨[.v (.sc (I6 (w.safe.foldl (tlF w.log) 0)))],[],[]⟩:=by
 refine sK p24 ?_;have hf:w.safe.take w.safe.length=w.safe:=List.take_length;have eD:=λn=>ev_impl_Depth w n hl
 simp only[AD,lent,fWo]at eD;have hlp:= @lok _ 10000000 [1,3,7,8,9] b24_0 (λj=>st24 w ((w.safe.take j).foldl (tlF w.log) 0) j) w.safe.length (λj hj=>by
  obtain⟨x,hx⟩:=AF hj;obtain⟨_,hx'⟩:=BT hx;have hinc:=Ar hj hs;have e:=eD x;simp only[Bi (tlF w.log) 0 w.safe hx];generalize (w.safe.take j).foldl (tlF w.log) 0=o;unfold tlF;have hmx:(if o<((chain w.log x).length:Int)then((chain w.log x).length:Int)else o)=max o (chain w.log x).length:=by split<;>omega
  simp[b24_0,  hj,hx',hinc,e,hmx]) (by simp[b24_0])
 simp only[hf]at hlp;simp[p24,  CV];rw[hlp]
 ·simp[b24_0]
 ·simp
 ·simp
@[simp] def st25 (w:AB) (o:Int) (j:Nat):St:={n:=22,m:=0,tm:=[(1,.pb 10000000 0),(3,.sc (I6 o)),(4,.sc (I6 j))],ob:=[(10000000,Ey w)]}
theorem ev_spec_Told [PKI] (w:AB) (hl:w.log.length<=1048576) (hs:w.safe.length<=1048576):sG 25 [.a (AD (fWo w))]=some ⟨[.v (.sc (I6 (w.safe.foldl (tlF w.log) 0)))],[],[]⟩:=by
 refine sK p25 ?_;have hf:w.safe.take w.safe.length=w.safe:=List.take_length;have eD:=λn=>ev_spec_Depth w n hl
 simp only[AD,lent,fWo]at eD;have hlp:= @lok _ 10000000 [1,3,4] b25_0 (λj=>st25 w ((w.safe.take j).foldl (tlF w.log) 0) j) w.safe.length (λj hj=>by
  obtain⟨x,hx⟩:=AF hj;obtain⟨_,hx'⟩:=BT hx;have hinc:=Ar hj hs;have e:=eD x;simp only[Bi (tlF w.log) 0 w.safe hx];generalize (w.safe.take j).foldl (tlF w.log) 0=o;have e2:=XS o (chain w.log x).length;unfold tlF;simp[b25_0,  hj,hx',hinc,e,e2]) (by simp[b25_0])
 simp only[hf]at hlp;simp[p25,  CV];rw[hlp]
 ·simp[b25_0]
 ·simp
 ·simp
theorem ev_DrawTips [PKI] (b:LI) (hb:byt b): ∃w,DW w/\sG 19 [.v (.im 1 (enc fU b))]=some ⟨[.a (AA (fWo w))],[],[]⟩:=by
 obtain⟨c,hc,e0⟩:=SX b hb;obtain⟨w,c1,hw,k1,e1⟩:=To b c hb hc;simp only[cur,AA,AJ,fWo]at e0 e1;refine⟨w,hw,sK p19 ?_⟩;simp[p19,  e0,e1]
theorem ev_DrawTold [PKI] (b:LI) (hb:byt b): ∃w,DW w/\sG 20 [.v (.im 1 (enc fU b))]=some ⟨[.a (AA (fWo w))],[],[]⟩:=by
 obtain⟨c,hc,e0⟩:=SX b hb;obtain⟨w,c1,hw,k1,e1⟩:=To b c hb hc;simp only[cur,AA,AJ,fWo]at e0 e1;refine⟨w,hw,sK p20 ?_⟩;simp[p20,  e0,e1]
theorem usedB_of {log:List Dw} {n:Int} {j:Nat} (hj:j<log.length) (h:CF log ((j:Int)+1)=n):usedB log n=true:=by
 unfold usedB;have h1:log.all (λr=> !decide (r.up=n))=false:=by
  cases ha:log.all (λr=> !decide (r.up=n))
  ·rfl
  ·have h2:=List.all_eq_true.1 ha log[j] (List.getElem_mem hj);unfold CF at h;rw[show ((j:Int)+1 - 1).toNat=j by omega,BP (List.getElem?_eq_getElem hj)]at h;rw[decide_eq_true h]at h2
   cases h2
 rw[h1];rfl
theorem usedB_ex {log:List Dw} {n:Int} (h:usedB log n=true): ∃j:Nat,j<log.length/\CF log ((j:Int)+1)=n:=by
 unfold usedB at h;have h1:log.all (λr=> !decide (r.up=n))=false:=by
  cases ha:log.all (λr=> !decide (r.up=n))<;>rw[ha]at h
  all_goals first
   |rfl
   |cases h
 obtain⟨r,hr,h2⟩:=List.all_eq_false.1 h1;obtain⟨j,hj,rfl⟩:=List.getElem_of_mem hr;refine⟨j,hj,?_⟩;unfold CF;rw[show ((j:Int)+1 - 1).toNat=j by omega,BP (List.getElem?_eq_getElem hj)];by_cases h3:log[j].up=n
 ·exact h3
 ·rw[decide_eq_false h3]at h2;exact absurd rfl h2
theorem tips_mem {log:List Dw} {n:Int}:n∈tips log<->(1<=n/\n<=log.length)/\usedB log n=false:=by
 unfold tips tipsJ;rw[List.mem_filter,List.mem_map];constructor
 ·rintro⟨⟨i,hi,rfl⟩,h⟩;have:=List.mem_range.1 hi;exact⟨⟨by omega,by omega⟩,by simpa using h⟩
 ·rintro⟨⟨h1,h2⟩,h3⟩;exact⟨⟨(n - 1).toNat,List.mem_range.2 (by omega),by omega⟩,by rw[h3];rfl⟩
theorem tip_up {log:List Dw} (hu:Ups log) (n:Int): ∀ (f:Nat) (m:Int),(log.length:Int) - m<=f->1<=m->m<=log.length->n∈chain log m-> ∃t∈tips log,n∈chain log t:=by
 intro f
 induction f with
 |zero=>
  intro m h1 h2 h3 h4;refine⟨m,tips_mem.2 ⟨⟨h2,h3⟩,?_⟩,h4⟩
  cases h:usedB log m
  ·rfl
  ·obtain⟨j,hj,h5⟩:=usedB_ex h;have:=hu ((j:Int)+1) (by omega) (by omega);omega
 |succ f ih=>
  intro m h1 h2 h3 h4
  cases h:usedB log m
  ·exact⟨m,tips_mem.2 ⟨⟨h2,h3⟩,h⟩,h4⟩
  ·obtain⟨j,hj,h5⟩:=usedB_ex h;have h6:=hu ((j:Int)+1) (by omega) (by omega);refine ih ((j:Int)+1) (by omega) (by omega) (by omega) ?_;rw[Oz (by omega) (by omega) h6.1 h6.2,h5];exact List.mem_append_left _ h4
theorem tip_hit {log:List Dw} (hu:Ups log) {n:Int} (h1:1<=n) (h2:n<=log.length): ∃t∈tips log,n∈chain log t:=by
 have hup:=hu n h1 h2;exact tip_up hu n ((log.length:Int) - n).toNat n (by omega) h1 h2 (by rw[Oz h1 h2 hup.1 hup.2];simp)
theorem tip_free {log:List Dw} (hu:Ups log) {a:Int} (ha:usedB log a=false): ∀ (f:Nat) (b:Int),b.toNat<=f->a∈chain log b->a=b
 |0,b,hf,h=>by
  have:=Iv h;omega
 |f+1,b,hf,h=>by
  have hb:1<=b/\b<=log.length:=by
   by_cases hh:1<=b/\b<=log.length
   ·exact hh
   ·rw[Gn hh]at h;cases h
  have hup:=hu b hb.1 hb.2;rw[Oz hb.1 hb.2 hup.1 hup.2]at h;rcases List.mem_append.1 h with h|h
  ·have h1:=tip_free hu ha f _ (by omega) h;have h2:=usedB_of (log:=log) (n:=a) (j:=(b - 1).toNat) (by omega) (by rw[show (((b - 1).toNat:Nat):Int)+1=b by omega];exact h1.symm);rw[ha]at h2;cases h2
  ·exact List.mem_singleton.1 h
theorem tips_sorted (log:List Dw):(tips log).Pairwise (· < ·):=by
 unfold tips tipsJ;refine List.Pairwise.filter _ ?_;rw[List.pairwise_map];exact List.Pairwise.imp (λh=>by omega) List.pairwise_lt_range
theorem tips_inj {log:List Dw} {i k:Nat} (hi:i<(tips log).length) (hk:k<(tips log).length) (h:(tips log)[i]=(tips log)[k]):i=k:=by
 have hs:=List.pairwise_iff_getElem.1 (tips_sorted log);rcases Nat.lt_trichotomy i k with h1|h1|h1
 ·have:=hs i k hi hk h1;omega
 ·exact h1
 ·have:=hs k i hk hi h1;omega
@[simp] def gbx (g:AB) (o:Nat):Obj:= .box [.ref o [],.ref (o+1) [],.ref (o+2) [],.ref (o+3) [],.sc (I6 g.gen)]
@[simp] def st5_2 (g:AB) (t:LI) (i:Nat) (u:Bool) (k:Nat):St:={n:=93,m:=0,tm:=[(3,.pb 10000200 0),(7,.ref 10000201 []),(8,.sc (I6 ((i:Int)+1))),(9,.sc (.bool u)),(10,.sc (I6 k))],ob:=[(10000200,gbx g 10000202),(10000201,.arr 1 (enc fI t)),(10000202,.arr 16 (enc fN g.nodes)),(10000203,.arr 3 (enc fW g.net)),(10000204,.arr 2 (enc fR g.log)),(10000205,.arr 1 (enc fI g.safe))]}
@[simp] def st5_3 (g:AB) (t:LI) (i:Nat):St:={n:=93,m:=0,tm:=[(3,.pb 10000000 0),(7,.ref 10000001 []),(8,.sc (I6 ((i:Int)+1)))],ob:=[(10000000,gbx g 10000002),(10000001,.arr 1 (enc fI t)),(10000002,.arr 16 (enc fN g.nodes)),(10000003,.arr 3 (enc fW g.net)),(10000004,.arr 2 (enc fR g.log)),(10000005,.arr 1 (enc fI g.safe))]}
@[simp] def st5_0 (g:AB) (t:LI) (i k:Nat):St:={n:=93,m:=0,tm:=[(3,.pb 10000600 0),(7,.ref 10000601 []),(11,.sc (I6 i)),(12,.sc (I6 k))],ob:=[(10000600,gbx g 10000602),(10000601,.arr 1 (enc fI t)),(10000602,.arr 16 (enc fN g.nodes)),(10000603,.arr 3 (enc fW g.net)),(10000604,.arr 2 (enc fR g.log)),(10000605,.arr 1 (enc fI g.safe))]}
@[simp] def st5_1 (g:AB) (t:LI) (i:Nat):St:={n:=93,m:=0,tm:=[(3,.pb 10000400 0),(7,.ref 10000401 []),(11,.sc (I6 i))],ob:=[(10000400,gbx g 10000402),(10000401,.arr 1 (enc fI t)),(10000402,.arr 16 (enc fN g.nodes)),(10000403,.arr 3 (enc fW g.net)),(10000404,.arr 2 (enc fR g.log)),(10000405,.arr 1 (enc fI g.safe))]}
theorem lp_Tips0 [PKI] (g:AB) (hl:g.log.length<=1048576) (t:LI) (ht:t.length<=1048576) (i:Nat): ∀ (s:St),s.m<=10000200->Aa 10000200 [3,7,8,9,10] s=st5_2 g t i false 0->A6 G PK md 10000200 [3,7,8,9,10] b5_2 s=xG b5_2 (st5_2 g t i (t.any λm=>decide ((i:Int)+1∈chain g.log m)) t.length):=by
 have hf:t.take t.length=t:=List.take_length;have eW:=λm=>XT g ((i:Int)+1) m hl
 simp only[AD,lent,fWo]at eW;have h:= @lok _ 10000200 [3,7,8,9,10] b5_2 (λk=>st5_2 g t i ((t.take k).any λm=>decide ((i:Int)+1∈chain g.log m)) k) t.length (λk hk=>by
  obtain⟨x,hx⟩:=AF hk;obtain⟨_,hx'⟩:=BT hx;have hinc:=Ar hk ht;have e:=eW x;have hsn:(t.take (k+1)).any (λm=>decide ((i:Int)+1∈chain g.log m))=((t.take k).any (λm=>decide ((i:Int)+1∈chain g.log m))||decide ((i:Int)+1∈chain g.log x)):=by
   rw[List.take_add_one,hx,List.any_append];simp
  simp only[hsn];generalize (t.take k).any (λm=>decide ((i:Int)+1∈chain g.log m))=u;generalize decide ((i:Int)+1∈chain g.log x)=v at*
  cases u<;>simp (maxSteps:=9999999) [b5_2,  hk,hx',hinc,e]) (by simp[b5_2])
 simp only[hf]at h;exact h
theorem lp_Tips1 [PKI] (g:AB) (hl:g.log.length<=1048576) (hu:Ups g.log) (ht:(tips g.log).length<=1048576): ∀ (s:St),s.m<=10000000->Aa 10000000 [3,7,8] s=st5_3 g (tips g.log) 0->A6 G PK md 10000000 [3,7,8] b5_3 s=xG b5_3 (st5_3 g (tips g.log) g.log.length):=
 @lok _ 10000000 [3,7,8] b5_3 (st5_3 g (tips g.log)) g.log.length (λi hi=>by
  have hle:(i:Int)+1<=g.log.length:=by omega
  have h0:=lp_Tips0 g hl (tips g.log) ht i;obtain⟨m,hm1,hm2⟩:=tip_hit hu (n:=(i:Int)+1) (by omega) hle;have hany:(tips g.log).any (λm=>decide ((i:Int)+1∈chain g.log m))=true:=List.any_eq_true.2 ⟨m,hm1,by simpa using hm2⟩;rw[hany]at h0;have w2:IntKind.wrap .i64 ((i:Int)+1+1)=(i:Int)+1+1:=AC (by omega) (by omega);generalize tips g.log=t at*;simp (maxSteps:=9999999) [b5_3,  hle];rw[h0]
  ·simp (maxSteps:=9999999) [b5_2,  w2]
  ·simp
  ·simp) (by
  have hle: ¬ (g.log.length:Int)+1<=g.log.length:=by omega
  simp[b5_3,hle])
theorem lp_Tips2 [PKI] (g:AB) (hl:g.log.length<=1048576) (hu:Ups g.log) (ht:(tips g.log).length<=1048576) (i:Nat) (hi:i<(tips g.log).length): ∀ (s:St),s.m<=10000600->Aa 10000600 [3,7,11,12] s=st5_0 g (tips g.log) i 0->A6 G PK md 10000600 [3,7,11,12] b5_0 s=xG b5_0 (st5_0 g (tips g.log) i (tips g.log).length):=
 @lok _ 10000600 [3,7,11,12] b5_0 (st5_0 g (tips g.log) i) (tips g.log).length (λk hk=>by
  have hinc:=Ar hk ht;have e:=XT g (tips g.log)[i] (tips g.log)[k] hl;simp only[AD,lent,fWo]at e;by_cases hik:i=k
  ·have hb:((i:Int) != (k:Int))=false:=by simp[hik]
   generalize tips g.log=t at*;simp (maxSteps:=9999999) [b5_0,  hk,hb,hinc]
  ·have hb:((i:Int) != (k:Int))=true:=by simp;omega
   have hno: ¬ (tips g.log)[i]∈chain g.log (tips g.log)[k]:=λh=>by
    have h1:=(tips_mem.1 (List.getElem_mem hi)).2;exact hik (tips_inj hi hk (tip_free hu h1 _ _ (Nat.le_refl _) h))
   rw[decide_eq_false hno]at e;generalize tips g.log=t at*;simp (maxSteps:=9999999) [b5_0,  hi,hk,hb,hinc,e]) (by simp[b5_0])
theorem lp_Tips3 [PKI] (g:AB) (hl:g.log.length<=1048576) (hu:Ups g.log) (ht:(tips g.log).length<=1048576): ∀ (s:St),s.m<=10000400->Aa 10000400 [3,7,11] s=st5_1 g (tips g.log) 0->A6 G PK md 10000400 [3,7,11] b5_1 s=xG b5_1 (st5_1 g (tips g.log) (tips g.log).length):=
 @lok _ 10000400 [3,7,11] b5_1 (st5_1 g (tips g.log)) (tips g.log).length (λi hi=>by
  have hinc:=Ar hi ht;have h0:=lp_Tips2 g hl hu ht i hi;generalize tips g.log=t at*;simp (maxSteps:=9999999) [b5_1,  hi];rw[h0]
  ·simp (maxSteps:=9999999) [b5_0,  hinc]
  ·simp
  ·simp) (by simp[b5_1])
theorem ev_law [PKI] (hK:Cm PK) (hD:X0 PK) (x:LI) (hx:okU x):sG 5 [.v (.im 1 (enc fU x))]=some yes:=by
 refine sK p5 ?_;have e0:=ev_big x hx.1;by_cases hbig:1048576<x.length
 ·rw[decide_eq_true hbig]at e0;simp[p5,  e0,yes]
 rw[decide_eq_false hbig]at e0;have hb:=okU_byt hx (by omega);obtain⟨l,hl,e1⟩:=ev_DrawPlayed x hb;have e2:=Vg hK.cu;have e3:=ev_DoAllW hK hD Lj l newW_DR.ok newW_DR.S (by omega);obtain⟨g1,g2⟩:=doAllW_ok (l:=l) newW_DR.ok newW_DR.S;obtain⟨w,hw,e4⟩:=ev_DrawTips x hb;obtain⟨v,hv,e5⟩:=ev_DrawTold x hb;have e6:=ev_impl_Tips w hw.S.log;have e7:=ev_spec_Tips w hw.S.log;have e8:=ev_impl_Told v hv.S.log hv.S.safe;have e9:=ev_spec_Told v hv.S.log hv.S.safe;have htl:=λlog:List Dw=>tipsJ_len log log.length
 have e10:=ev_sameInts (tips w.log) (Nat.le_trans (htl w.log) hw.S.log);simp only[AD,lent,AA,AJ,fWo]at e2 e3 e4 e5 e6 e7 e8 e9;generalize ME Lj l=r at*;obtain⟨g,cs⟩:=r;simp only at g1 g2 e3;generalize Lj=nw at*;generalize tips w.log=t1 at*;generalize v.safe.foldl (tlF v.log) 0=o1 at*;have e11:=ev_impl_Tips g g2.log;have hups:=worldOk_ups g1;have hgt:(tips g.log).length<=1048576:=Nat.le_trans (htl g.log) g2.log;have h1:=lp_Tips1 g g2.log hups hgt;have h3:=lp_Tips3 g g2.log hups hgt;simp only[AD,lent,fWo]at e11;generalize tips g.log=t at*;have hle: ¬ (g.log.length:Int)+1<=g.log.length:=by omega
 simp (maxSteps:=9999999) [p5,  e0,e1,e2,e3,e4,e5,e6,e7,e8,e9,e10,e11];rw[h1]
 ·simp (maxSteps:=9999999) [b5_3,  hle];rw[h3]
  ·simp[b5_1,yes]
  ·simp
  ·simp
 ·simp
 ·simp
end Go.Proofs.YtghgecpicnfgpaaGreat.Ow
