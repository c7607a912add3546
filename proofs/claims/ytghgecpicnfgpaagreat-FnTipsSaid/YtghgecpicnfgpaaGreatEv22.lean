/- Functions evaluated on the small machine: Messages that are right, to whom they go, and what is heard: the program's own way, Hearing, writing, copying: the program's own way, Writing and copying: the program's own way. -/
import Derived.Test.YtghgecpicnfgpaaGreatEv21
import Derived.Test.YtghgecpicnfgpaaGreatEv12
import Derived.Test.YtghgecpicnfgpaaGreatEv13
namespace Go.Proofs.YtghgecpicnfgpaaGreat.Ow
open Go
set_option linter.unusedVariables false
set_option linter.unusedSimpArgs false
set_option maxHeartbeats 16000000
set_option maxRecDepth 100000
theorem CO [PKI] (i:Int):sG 147 [.v (.sc (I6 i))]=some ⟨[.v (.sc (I6 (Dd i)))],[],[]⟩:=by
 refine sK p147 ?_;unfold Dd;by_cases h0:i=0
 ·subst h0;simp[p147];rfl
 by_cases h1:i=1
 ·subst h1;simp[p147];rfl
 have h:inB i 0 1=false:=by
  cases h:inB i 0 1
  ·rfl
  ·have:=AP.1 h;omega
 simp[p147,  h0,h1,h]
theorem JN [PKI] (m:A2) (hm:m.gens.length<=1048576):sG 200 [.a (AD (fMs m))]=some ⟨[.v (.sc (.bool (C3 m)))],[],[]⟩:=by
 refine sK p200 ?_;obtain⟨k,c,v,w,g⟩:=m;have e1:=Ff g hm;have e2:=BF v 0 200;have e3:=Cd c;have e4:=OY v;have e5:=DU w;unfold C3;simp only;by_cases h5:k=5
 ·subst h5
  cases h1:Dj g
  ·simp[p200,  e1,h1]
  cases h2:inB v 0 200
  ·simp[p200,  e1,e2,h1,h2]
  by_cases h3:c=0<;>by_cases h4:w=0<;>simp[p200,  e1,e2,h1,h2,h3,h4]
 by_cases h:k=1\/k=2\/k=3\/k=4
 ·have w0:inB 0 0 2=true:=rfl
  cases h3:inB c 0 7
  ·rcases h with rfl|rfl|rfl|rfl<;>simp[p200,  e3,h3]
  rcases h with rfl|rfl|rfl|rfl
  ·cases h6:inB v 1 200
   ·simp[p200,  e3,h3,e4,h6,bit]
   ·by_cases h4:w=0<;>by_cases hg:g.length=0<;>simp[p200,  e3,h3,e4,h6,h4,hg,bit]
  ·cases h6:inB v 0 200
   ·simp[p200,  e3,h3,e2,h6,bit]
   ·by_cases h4:w=0<;>by_cases hg:g.length=0<;>simp[p200,  e3,h3,e2,h6,h4,hg,bit]
  ·cases h6:inB v 1 200
   ·simp[p200,  e3,h3,e4,h6,bit]
   ·cases h7:inB w 0 2
    ·have h4:w≠0:=λh=>by subst h;cases h7
     simp[p200,  e3,h3,e4,e5,h6,h7,h4,bit]
    ·by_cases hg:g.length=0<;>simp[p200,  e3,h3,e4,e5,h6,h7,hg,bit]
  ·cases h6:inB v 0 200
   ·simp[p200,  e3,h3,e2,h6,bit]
   ·by_cases h4:w=0<;>by_cases hg:g.length=0<;>simp[p200,  e3,h3,e2,h6,h4,hg,bit]
 ·simp only[not_or]at h;simp[p200,  h5,h.1,h.2.1,h.2.2.1,h.2.2.2]
theorem RH [PKI] (n:AE) (src:Int) (hn:n.conn.length=3):sG 201 [.a (AD (fN n)),.v (.sc (I6 src))]=some ⟨[.v (.sc (.bool (inB src 0 2&&n.conn.getD src.toNat false)))],[],[]⟩:=by
 refine sK p201 ?_;have e:=DU src
 cases h:inB src 0 2
 ·simp[p201,  e,h]
 ·have r:=AP.1 h;obtain⟨i,rfl⟩: ∃i:Nat,src=(i:Int):=⟨src.toNat,by omega⟩;obtain⟨x,y1,hx,hx',hxd⟩:=Aj n.conn (j:=i) (by omega);simp[p201,  e,h,y1,hx',hxd]
@[simp] def st190 (n:AE) (but:Int) (m:A2) (out:List Bz) (j:Nat):St:={n:=33,m:=0,tm:=[(1,.sc (I6 but)),(3,.pb 10000000 0),(5,.pb 10000001 0),(7,.ref 10000002 []),(10,.sc (I6 j))],ob:=[(10000000,PJ n),(10000001,.box [.sc (I6 m.kind),.sc (I6 m.cell),.sc (I6 m.val),.sc (I6 m.who),.nil 1]),(10000002,.arr 7 (enc fP out))]}
theorem RK [PKI] (n:AE) (but:Int) (m:A2) (hn:n.conn.length=3) (hm:m.gens=[]):sG 190 [.a (AD (fN n)),.v (.sc (I6 but)),.a (TM m)]=some ⟨[.v (.own 7 (enc fP (tos n but m)))],[],[]⟩:=by
 refine sK p190 ?_;have hs:= @lok _ 10000000 [1,3,5,7,10] b190_0 (λj=>st190 n but m ((List.range j).flatMap (to1 n but m)) j) 3 (λj hj=>by
  obtain⟨x,y1,hx,hx',hxd⟩:=Aj n.conn (j:=j) (by omega);have hinc:=Ar hj (by omega);have hl:=KP n but m j;simp only[Rk];generalize (List.range j).flatMap (to1 n but m)=out at hl ⊢;have hj3:(j:Int)<3:=by omega
  have g1:(out.length+1)*72<=35184372088832:=by omega
  unfold to1;rw[hxd]
  cases x
  ·simp[b190_0,  hj3,hinc,y1,hx']
  by_cases hb:(j:Int)=but
  ·have hb2:((j:Int) != but)=false:=by simp[hb]
   simp[b190_0,  hj3,hinc,y1,hx',eq_true hb,hb2]
  ·have hb2:((j:Int) != but)=true:=by simp[hb]
   simp[b190_0,  hj3,hinc,y1,hx',hb,hb2,g1,hm];simp[enc,hm]) (by simp[b190_0])
 unfold tos;simp[p190];rw[hs]
 ·simp[b190_0]
 ·simp
 ·simp
def Cw (n:AE) (src:Int) (m:A2):AE×List Bz×Bool:=
 if m.kind=1 then((Dp n src m.cell m.val).1,[Pb n src m],(Dp n src m.cell m.val).2)
 else if m.kind=4 then(D9 n src m.cell m.val n.mt.last,[Pb n src m],AL (D9 n src m.cell m.val n.mt.last))
 else if m.kind=5 then(LK n m,[],AL (LK n m))
 else if m.kind=2 then(I4 n src m,if m.val=0 then []else tos (I4 n src m) src ⟨3,m.cell,m.val,src,[]⟩,true)
 else(if m.who=n.id then n else CG n m.who m.cell m.val,[],true)
theorem XV [PKI] (hK:Cm PK) (n:AE) (src:Int) (m:A2) (hn:nB n) (hbl: ∀x∈n.mt.bits,x.length<=800) (hid:0<=n.id/\n.id<=2) (hm:C3 m=true): ∃fin,(fin=GG n\/fin=Lw n\/fin=Lx n\/fin=Ly)/\
  sG 202 [.a (AA (fN n)),.v (.sc (I6 src)),.a (AD (fMs m))]=some ⟨[.a (AA (fN (Cw n src m).1)),.v (.own 7 (enc fP (Cw n src m).2.1)),.v (.sc (.bool (Cw n src m).2.2))],fin,[]⟩:=by
 have hmg:m.gens.length<=12/\(m.kind≠5->m.gens=[])/\(m.kind=1\/m.kind=2\/m.kind=3\/m.kind=4\/m.kind=5):=by
  unfold C3 at hm;split at hm
  ·rename_i h5;simp only[Bool.and_eq_true]at hm;have:=hm.1.1.1;unfold Dj at this;simp only[Bool.and_eq_true,decide_eq_true_iff]at this;exact⟨by omega,λh=>absurd h5 h,by omega⟩
  ·split at hm
   ·rename_i h5 h;simp only[Bool.and_eq_true,decide_eq_true_iff]at hm;exact⟨by omega,λ_=>List.eq_nil_of_length_eq_zero hm.1.1.1,by omega⟩
   ·cases hm
 obtain⟨mg,mg0,mk⟩:=hmg
 have e1:=Oe hK n src m.cell m.val hn hbl
 have e2:=OI hK n src m.cell m.val n.mt.last hn hbl
 have e3:=F4 hK n (IJ n m) hn.nS (Dq hn (IJ n m) (show m.gens.length<=1000 by omega) hn.bits hn.bit).mt
 have e4:=Bp hK n.mt hn.mt
 have e4b:=hK.ci m.gens (by omega)
 have e5:=JO hK n src m.cell m.val hn
 have e6:=JO hK n m.who m.cell m.val hn
 have e7:=CO n.id
 have hkn:=Gd (who:=src) (cell:=m.cell) (val:=m.val) hn
 have e8:=GI hK (CG n src m.cell m.val).wait m.val (by have:=hkn.wait;omega)
 have e9:=RK (I4 n src m) src ⟨3,m.cell,m.val,src,[]⟩ (NO hn).conn rfl
 have hidk:(CG n src m.cell m.val).id=n.id:=by unfold CG;split<;>rfl
 simp only[AD,lent,fN,fM,fMs,AA,AJ,kpF,TM,Lw]at e1 e2 e3 e4 e5 e6 e8 e9
 rcases mk with h|h|h|h|h
 ·refine⟨GG n,.inl rfl,sK p202 ?_⟩
  unfold Cw GG Pb
  generalize Dp n src m.cell m.val=q at*
  simp[p202,  h,mg0 (by omega),e1]
 ·unfold Cw
  unfold I4 at*
  generalize CG n src m.cell m.val=q at*
  by_cases h2:m.val=0
  ·refine⟨GG n,.inl rfl,sK p202 ?_⟩
   unfold GG
   by_cases h1:src=Dd n.id
   ·simp[p202,  h,mg0 (by omega),e5,e7,e8,hidk,eq_true h1,eq_true h2]
   ·simp[p202,  h,mg0 (by omega),e5,e7,hidk,h1,eq_true h2]
  ·refine⟨GG n,.inl rfl,sK p202 ?_⟩
   unfold GG
   by_cases h1:src=Dd n.id
   ·simp only[if_pos h1,hidk]at e9 ⊢
    simp[p202,  h,mg0 (by omega),e5,e7,e8,e9,hidk,eq_true h1,h2]
   ·simp only[if_neg h1,hidk]at e9 ⊢
    simp[p202,  h,mg0 (by omega),e5,e7,e9,hidk,h1,h2]
 ·by_cases h1:m.who=n.id
  ·refine⟨Ly,.inr (.inr (.inr rfl)),sK p202 ?_⟩
   have h1b:(m.who != n.id)=false:=by simp[h1]
   unfold Cw Ly
   simp[p202,  h,mg0 (by omega),eq_true h1,h1b]
  ·refine⟨GG n,.inl rfl,sK p202 ?_⟩
   have h1b:(m.who != n.id)=true:=by simp[h1]
   unfold Cw GG
   generalize CG n m.who m.cell m.val=q at*
   simp[p202,  h,mg0 (by omega),h1,h1b,e6]
 ·refine⟨Lw n,.inr (.inl rfl),sK p202 ?_⟩
  unfold Cw Lw Pb
  generalize D9 n src m.cell m.val n.mt.last=q at*
  simp[p202,  h,mg0 (by omega),e2]
 ·refine⟨Lx n,.inr (.inr (.inl rfl)),sK p202 ?_⟩
  unfold Cw Lx
  rw[show A7 n (IJ n m)=LK n m from rfl]at e3
  generalize LK n m=q at*
  unfold IJ at e3
  by_cases h2:n.id=2
  ·have h3: ¬n.id<2:=by omega
   simp only[if_neg h3]at e3
   simp[p202,  h,h2,e4,e4b]
   simp[h2]at e3
   simp[e3]
  ·have h3:n.id<2:=by omega
   simp only[if_pos h3]at e3
   simp[p202,  h,h2,e4,e4b,e3]
theorem SI {n:AE} {src:Int} {m:A2} (h:JE n src m=true):(if(Cw n src m).2.2&&AL (Cw n src m).1 then((Cw n src m).1,(Cw n src m).2.1)else(n,[]))=Di n src m:=by
 have h0:=h;unfold JE at h0;simp only[Bool.and_eq_true]at h0;obtain⟨⟨⟨⟨h1,h2⟩,h3⟩,h4⟩,h5⟩:=h0;unfold Di;rw[h,Bool.true_and];unfold Cw D3;by_cases k1:m.kind=1
 ·have hc:inB m.cell 0 7=true:=by
   unfold C3 at h2;rw[if_neg (by omega),if_pos (.inl k1)]at h2;simp only[Bool.and_eq_true]at h2;exact h2.1.1.2
  simp only[if_pos k1];unfold Dp;rw[h1,hc,Bool.true_and,Bool.true_and]
  cases hq:AL (BO n src m.cell m.val)
  ·simp
  ·simp[hq]
 simp only[if_neg k1];by_cases k4:m.kind=4
 ·simp only[if_pos k4];rw[show D9 n src m.cell m.val n.mt.last=A7 (DB n src m.cell m.val) (DB n src m.cell m.val).mt from rfl,Bool.and_self]
 simp only[if_neg k4];by_cases k5:m.kind=5
 ·simp only[if_pos k5,Bool.and_self]
 simp only[if_neg k5];by_cases k2:m.kind=2
 ·simp only[if_pos k2,Bool.true_and]
 simp only[if_neg k2,Bool.true_and];by_cases k3:m.who=n.id
 ·simp only[if_pos k3]
 ·simp only[if_neg k3]
theorem VS {n:AE} {src:Int} {m:A2} (hn:nB n) (hbl: ∀x∈n.mt.bits,x.length<=800) (hm:m.gens.length<=1000):nB (Cw n src m).1:=by
 unfold Cw;split
 ·unfold Dp;split
  ·exact Iz hn hbl
  ·exact hn
 ·split
  ·exact NG hn hbl
  ·split
   ·exact Dq hn (IJ n m) hm hn.bits hn.bit
   ·split
    ·exact NO hn
    ·split
     ·exact hn
     ·exact Gd hn
theorem RE [PKI] (hK:Cm PK) (n:AE) (src:Int) (m:A2) (hn:nB n) (hbl: ∀x∈n.mt.bits,x.length<=800) (hm:m.gens.length<=1048576):sG 159 [.a (AD (fN n)),.v (.sc (I6 src)),.a (AD (fMs m))]=some ⟨[.a (AA (fN (Di n src m).1)),.v (.own 7 (enc fP (Di n src m).2))],[],[]⟩:=by
 have e1:=Ak n hn.nS;have e2:=JN m hm;have e3:=RH n src hn.conn;have e4:=BH hK n hn.nS;simp only[AD,lent,fN,fMs,AA,AJ]at e1 e2 e3 e4;have hno:JE n src m=false->Di n src m=(n,[]):=λh=>by unfold Di;rw[h];simp
 cases hg:JE n src m
 ·rw[hno hg];refine sK p159 ?_;unfold JE at hg
  cases h1:AL n
  ·simp[p159,  e1,e4,h1]
  cases h2:C3 m
  ·simp[p159,  e1,e2,e4,h1,h2]
  by_cases h5:m.kind=5/\m.gens.length=0
  ·simp[p159,  e1,e2,e4,h1,h2,eq_true h5.1,h5.2]
  ·have h3:(inB src 0 2&&n.conn.getD src.toNat false)=false:=by
    simp only[h1,h2,Bool.true_and]at hg;by_cases k5:m.kind=5
    ·have: ¬m.gens.length=0:=λh=>h5 ⟨k5,h⟩
     simpa[k5,this]using hg
    ·simpa[k5]using hg
   rw[h3]at e3;by_cases k5:m.kind=5
   ·have k6: ¬m.gens.length=0:=λh=>h5 ⟨k5,h⟩
    simp[p159,  e1,e2,e3,e4,h1,h2,eq_true k5,k6]
   ·simp[p159,  e1,e2,e3,e4,h1,h2,k5]
 ·rw[<-SI hg];have hg0:=hg;unfold JE at hg0;simp only[Bool.and_eq_true]at hg0;obtain⟨⟨⟨⟨h1,h2⟩,h3⟩,h4⟩,h5⟩:=hg0;have nn:=Ai h1;have mg:=G5 h2;obtain⟨fin,hf,e5⟩:=XV hK n src m hn hbl ⟨nn.id0,nn.id2⟩ h2;have e6:=Ak (Cw n src m).1 (VS hn hbl (by omega)).nS;rw[h1]at e1;rw[h2]at e2;rw[h3,h4]at e3;simp only[Bool.and_self]at e3;have k:m.kind=5-> ¬m.gens.length=0:=λk5 k6=>by simp[k5,k6]at h5
  generalize hq:Cw n src m=q at*;obtain⟨r,ps,ok⟩:=q;simp only at e5 e6 ⊢;simp only[AD,lent,fN,fMs,AA,AJ]at e5 e6
  cases ok
  ·refine sK p159 ?_;by_cases k5:m.kind=5
   ·have k6:=k k5;rcases hf with rfl|rfl|rfl|rfl<;>simp only[GG,Lw,Lx,Ly]at e5<;>simp[p159,  e1,e2,e3,e4,e5,eq_true k5,k6]
   ·rcases hf with rfl|rfl|rfl|rfl<;>simp only[GG,Lw,Lx,Ly]at e5<;>simp[p159,  e1,e2,e3,e4,e5,k5]
  ·cases h6:AL r
   ·rw[h6]at e6;refine sK p159 ?_;by_cases k5:m.kind=5
    ·have k6:=k k5;rcases hf with rfl|rfl|rfl|rfl<;>simp only[GG,Lw,Lx,Ly]at e5<;>simp[p159,  e1,e2,e3,e4,e5,e6,eq_true k5,k6]
    ·rcases hf with rfl|rfl|rfl|rfl<;>simp only[GG,Lw,Lx,Ly]at e5<;>simp[p159,  e1,e2,e3,e4,e5,e6,k5]
   ·rw[h6]at e6;refine sK p159 ?_;by_cases k5:m.kind=5
    ·have k6:=k k5;rcases hf with rfl|rfl|rfl|rfl<;>simp only[GG,Lw,Lx,Ly]at e5<;>simp[p159,  e1,e2,e3,e4,e5,e6,eq_true k5,k6]
    ·rcases hf with rfl|rfl|rfl|rfl<;>simp only[GG,Lw,Lx,Ly]at e5<;>simp[p159,  e1,e2,e3,e4,e5,e6,k5]
theorem Vi [PKI] (n x:Int):sG 187 [.v (.sc (I6 x)),.pi [.sc (I6 n)]]=some ⟨[.v (.sc (.bool (decide (n<x))))],[],[]⟩:=by
 refine sK p187 ?_;simp[p187]
theorem S1 {p:Int->Bool}: ∀ {l:LI},(∀y∈l,p y=true)->l.takeWhile p=l/\l.dropWhile p=[]
 |[],_=>⟨rfl,rfl⟩
 |y::l,h=>by
  have h1:=h y List.mem_cons_self;have h2:=S1 (l:=l) λz hz=>h z (List.mem_cons_of_mem _ hz)
  rw[List.takeWhile_cons_of_pos h1,List.dropWhile_cons_of_pos h1,h2.1,h2.2];exact⟨rfl,rfl⟩
theorem Rb {a b:Int} {l:LI} (h:Ac (CX a b l) l.length=true) {j:Nat} (hj:j<l.length):a<=l.getD j 0/\l.getD j 0<=b/\ ∀i,i<j->l.getD i 0<l.getD j 0:=by
 have h1:=Am h hj;unfold CX at h1;simp only[Bool.and_eq_true]at h1;have r:=AP.1 h1.1;refine⟨r.1,r.2,?_⟩;have key: ∀d i,i+d+1<l.length+0->l.getD i 0<l.getD (i+d+1) 0:=by
  intro d
  induction d with
  |zero=>
   intro i hi;have h2:=Am h (j:=i+1) (by omega);unfold CX at h2;simp only[Bool.and_eq_true,Bool.or_eq_true,decide_eq_true_iff]at h2;rcases h2.2 with h3|h3
   ·omega
   ·simpa using h3
  |succ d ih=>
   intro i hi;have h3:=ih i (by omega);have h2:=Am h (j:=i+d+1+1) (by omega);unfold CX at h2;simp only[Bool.and_eq_true,Bool.or_eq_true,decide_eq_true_iff]at h2;rcases h2.2 with h4|h4
   ·omega
   ·have h4:l.getD (i+d+1) 0<l.getD (i+d+1+1) 0:=by simpa using h4
    exact Int.lt_trans h3 h4
 intro i hi;have:=key (j - i - 1) i (by omega);rwa [show i+(j - i - 1)+1=j by omega]at this
theorem asc_app {a b:Int} {l:LI} (h:Ac (CX a b l) l.length=true) {x:Int} (hx: ∀j,j<l.length->l.getD j 0<=x):VQ l x=clr l x++[x]:=by
 unfold VQ;have hmem: ∀y∈l,y<=x:=λy hy=>by
  obtain⟨j,hj,rfl⟩:=List.getElem_of_mem hy;have:=hx j hj;rwa [BP (List.getElem?_eq_getElem hj)]at this
 by_cases hm:x∈l
 ·rw[if_pos hm];obtain⟨j,hj,hjx⟩:=List.getElem_of_mem hm;have hjl:j+1=l.length:=by
   by_cases hlt:j+1<l.length
   ·have h1:=(Rb h hlt).2.2 j (by omega);have h2:=hx (j+1) hlt;rw[BP (List.getElem?_eq_getElem hj),hjx]at h1;omega
   ·omega
  have hl:l=l.take j++[x]:=by
   have h1:=List.take_append_drop j l;rw[List.drop_eq_getElem_cons hj,hjx,List.drop_eq_nil_of_le (by omega)]at h1;exact h1.symm
  have hno: ∀y∈l.take j,y≠x:=λy hy=>by
   obtain⟨i,hi,hiy⟩:=List.getElem_of_mem hy;have hi':i<j:=by simp at hi;omega
   have h1:=(Rb h hj).2.2 i hi';rw[BP (List.getElem?_eq_getElem hj),hjx,BP (List.getElem?_eq_getElem (by omega))]at h1;rw[List.getElem_take]at hiy;omega
  have hc:clr l x=l.take j:=by
   rw[hl];unfold clr;rw[List.filter_append];have h1:(l.take j).filter (λy=> !decide (y=x))=l.take j:=List.filter_eq_self.2 λy hy=>by simp[hno y hy]
   rw[<-hl,h1];simp
  rw[hc,<-hl]
 ·rw[if_neg hm];have hlt: ∀y∈l,decide (y<x)=true:=λy hy=>by
   have h1:=hmem y hy;have h2:y≠x:=λe=>hm (e ▸ hy)
   simp;omega
  have hc:clr l x=l:=List.filter_eq_self.2 λy hy=>by
   have h2:y≠x:=λe=>hm (e ▸ hy)
   simp[h2]
  unfold ins;rw[hc,(S1 hlt).1,(S1 hlt).2]
theorem R5 {q:AE} {w:LI} (h:AL {q with wait:=w}=true) (h1:Ac (CX 1 200 q.wait) q.wait.length=true) (h2:q.up=false->q.wait.length=0):AL q=true:=by
 unfold AL at h ⊢;simp only[Bool.and_eq_true]at h ⊢;obtain⟨⟨⟨⟨⟨⟨⟨⟨a0,a1⟩,a2⟩,a3⟩,a4⟩,a5⟩,a6⟩,a7⟩,a8⟩:=h;refine⟨⟨⟨⟨⟨⟨⟨⟨a0,a1⟩,a2⟩,a3⟩,a4⟩,?_⟩,h1⟩,a7⟩,a8⟩
 cases hu:q.up
 ·simp[h2 hu]
 ·simp
theorem asc_bad {a b:Int} {l:LI} {x:Int} {j:Nat} (hj:j<l.length) (hx:x<l.getD j 0):Ac (CX a b (clr l x++[x])) (clr l x++[x]).length=false:=by
 cases h:Ac (CX a b (clr l x++[x])) (clr l x++[x]).length
 ·rfl
 ·exfalso;have hm:l.getD j 0∈clr l x:=by
   rw[BP (List.getElem?_eq_getElem hj)]at hx ⊢;unfold clr;rw[List.mem_filter];exact⟨List.getElem_mem hj,by simp;omega⟩
  obtain⟨i,hi,hix⟩:=List.getElem_of_mem hm;have h1:=(Rb h (j:=(clr l x).length) (by simp)).2.2 i hi;rw[BP (List.getElem?_append_left hi |>.trans (List.getElem?_eq_getElem hi)),hix,BP (l:=clr l x++[x]) (j:=(clr l x).length) (x:=x) (by simp)]at h1;omega
theorem JL [PKI] (hK:Cm PK) (n:AE) (cell val:Int) (hn:nB n) (hbl: ∀x∈n.mt.bits,x.length<=800) (hw:n.wait.length<=900):sG 145 [.a (AD (fN n)),.v (.sc (I6 cell)),.v (.sc (I6 val))]=some ⟨[.a (AA (fN (Bd n cell val).1)),.v (.own 7 (enc fP (Bd n cell val).2))],[],[]⟩:=by
 have e1:=Ak n hn.nS;have e3:=Cd cell;have e4:=BH hK n hn.nS;simp only[AD,lent,fN,AA,AJ]at e1 e4;have bad:Bd n cell val=(n,[])->sG 145 [.a (AD (fN n)),.v (.sc (I6 cell)),.v (.sc (I6 val))]=some ⟨[.a (AA (fN n)),.v (.own 7 [])],[],[]⟩->sG 145 [.a (AD (fN n)),.v (.sc (I6 cell)),.v (.sc (I6 val))]=some ⟨[.a (AA (fN (Bd n cell val).1)),.v (.own 7 (enc fP (Bd n cell val).2))],[],[]⟩:=λh1 h2=>by
  rw[h1];exact h2
 cases h1:AL n
 ·refine bad (by unfold Bd;simp[h1]) (sK p145 ?_);simp[p145,  e1,e4,h1]
 have nn:=Ai h1
 cases h2:n.prime
 ·refine bad (by unfold Bd;simp[h2]) (sK p145 ?_);rw[h2]at e1 e4;simp[p145,  e1,e4,h1,h2]
 cases h3:inB cell 0 7
 ·refine bad (by unfold Bd;simp[h3]) (sK p145 ?_);rw[h2]at e1 e4;simp[p145,  e1,e3,e4,h1,h2,h3]
 by_cases h4:1<=val
 case neg=>
  refine bad (by unfold Bd;simp[h4]) (sK p145 ?_);rw[h2]at e1 e4;simp[p145,  e1,e3,e4,h1,h2,h3,show val<1 by omega]
 have hvl: ¬val<1:=by omega
 obtain⟨k,k2,hk⟩:=Kh nn h2;obtain⟨c,q1,hc,hc',hcd⟩:=Aj n.conn (j:=k) (by have:=hn.conn;omega);have e5:=Oe hK n n.id cell val hn hbl;have e6:=CO n.id;have haw:(BO n n.id cell val).wait=n.wait:=rfl;have hap:Dp n n.id cell val=if AL (BO n n.id cell val)then(BO n n.id cell val,true)else(n,false):=by
  unfold Dp;rw[h1,h3];simp
 have hqB:=Iz (src:=n.id) (cell:=cell) (val:=val) hn hbl;have e8:=Ak (BO n n.id cell val) hqB.nS;have e9:=RK (BO n n.id cell val) n.id ⟨1,cell,val,0,[]⟩ hqB.conn rfl;have hqid:(BO n n.id cell val).id=n.id:=rfl;have hqup:(BO n n.id cell val).up=n.up:=rfl;have hcnt:=MD 187 [.sc (I6 val)] (λx=>decide (val<x)) n.wait (by have:=hn.wait;omega) rfl (λx=>Vi val x);have e7:=ID hK n.wait val (by have:=hn.wait;omega);rw[hk]at e6;rw[hap]at e5;unfold Bd Ew;rw[hk];simp only[Int.toNat_natCast,hcd,h1,h2,h3,h4,decide_true,Bool.true_and];rw[h2]at e1 e4;rw[h1]at e1;rw[h3]at e3;simp only[AD,lent,fN,AA,AJ,TM]at e5 e8 e9;rw[h2]at e5
 cases c
 ·simp only[Bool.false_eq_true,if_false]
  cases h5:AL (BO n n.id cell val)
  ·rw[h5]at e5;refine sK p145 ?_;simp only[Bool.false_eq_true,if_false]at e5;simp (maxSteps:=9999999) [p145,  e1,e3,e4,e5,e6,h2,hvl,q1,hc']
  ·rw[h5]at e5 e8;refine sK p145 ?_;simp only[if_true]at e5;generalize BO n n.id cell val=q at*;simp (maxSteps:=9999999) [p145,  e1,e3,e5,e6,e8,e9,h2,hvl,q1,hc']
 ·simp only[if_true];by_cases hany: ∃j,j<n.wait.length/\val<n.wait.getD j 0
  ·obtain⟨j,hj,hjv⟩:=hany;have hcn:Ac (λj=> !decide (val<n.wait.getD j 0)) n.wait.length=false:=by
    cases hh:Ac (λj=> !decide (val<n.wait.getD j 0)) n.wait.length
    ·rfl
    ·have h9:=Am hh hj;rw[decide_eq_true hjv]at h9
     cases h9
   rw[hcn]at hcnt;have hbad:AL {BO n n.id cell val with wait:=clr n.wait val++[val]}=false:=by
    cases hh:AL {BO n n.id cell val with wait:=clr n.wait val++[val]}
    ·rfl
    ·have:=(Ai hh).wait;rw[asc_bad hj hjv]at this;cases this
   rw[hbad];refine sK p145 ?_;simp (maxSteps:=9999999) [p145,  e1,e3,e4,e6,hcnt,h2,hvl,q1,hc']
  ·have hall: ∀j,j<n.wait.length->n.wait.getD j 0<=val:=λj hj=>by
    by_cases h:n.wait.getD j 0<=val
    ·exact h
    ·exact absurd ⟨j,hj,by omega⟩ hany
   have hcn:Ac (λj=> !decide (val<n.wait.getD j 0)) n.wait.length=true:=BJ λj hj=>by
    have h9:=hall j hj;rw[decide_eq_false (by omega)];rfl
   rw[hcn]at hcnt;have hins:=asc_app nn.wait hall;rw[hins]at e7
   cases h5:AL (BO n n.id cell val)
   ·have hbad:AL {BO n n.id cell val with wait:=clr n.wait val++[val]}=false:=by
     cases hh:AL {BO n n.id cell val with wait:=clr n.wait val++[val]}
     ·rfl
     ·rw[R5 hh (by rw[haw];exact nn.wait) (by rw[haw,hqup];exact nn.down)]at h5;cases h5
    rw[h5]at e5;rw[hbad];refine sK p145 ?_;simp only[Bool.false_eq_true,if_false]at e5;simp (maxSteps:=9999999) [p145,  e1,e3,e4,e5,e6,hcnt,h2,hvl,q1,hc']
   ·have hB:nB {BO n n.id cell val with wait:=clr n.wait val++[val]}:=⟨hqB.image,hqB.gens,hqB.bits,hqB.bit,hqB.sl,hqB.conn,hqB.sync,hqB.syn,hqB.copies,by have:=F6 n.wait val;simp only[List.length_append,List.length_cons,List.length_nil];omega⟩;have f8:=Ak {BO n n.id cell val with wait:=clr n.wait val++[val]} hB.nS;have f9:=RK {BO n n.id cell val with wait:=clr n.wait val++[val]} n.id ⟨1,cell,val,0,[]⟩ hB.conn rfl;rw[h5]at e5;simp only[AD,lent,fN,AA,AJ,TM]at f8 f9;simp only[if_true]at e5;rw[haw]at e5;generalize BO n n.id cell val=q at*
    cases h6:AL {q with wait:=clr n.wait val++[val]}
    ·rw[h6]at f8;refine sK p145 ?_;simp (maxSteps:=9999999) [p145,  e1,e3,e4,e5,e6,e7,f8,haw,hcnt,h2,hvl,q1,hc']
    ·rw[h6]at f8;refine sK p145 ?_;simp (maxSteps:=9999999) [p145,  e1,e3,e5,e6,e7,f8,f9,haw,hcnt,h2,hvl,q1,hc']
end Go.Proofs.YtghgecpicnfgpaaGreat.Ow
