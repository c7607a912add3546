/- A meta out of bytes: evaluated. -/
import Derived.Test.YtbolhfegdocpeaaGreatEv3
namespace Go.Proofs.YtbolhfegdocpeaaGreat.Ow
open Go
set_option linter.unusedVariables false
set_option linter.unusedSimpArgs false
set_option maxHeartbeats 4000000
variable {PK:Nat->List Arg->Option Res}
def rd3 (z:Bool) (b:List Int) (c:Nat×Bool):Nat->(Nat×Bool)×List (List Int)
 |0=>(c,[])
 |j+1=>((rdl z b (rd3 z b c j).1).1,(rd3 z b c j).2++[(rdl z b (rd3 z b c j).1).2])
def fb (f k:Int):Bool:=bits .and .i64 f k != 0
def rdM (z:Bool) (b:List Int):Av×Bool:=
 let r0:=rdl z b (0,true)
 let r3:=rd3 z b r0.1 3
 let f:=num z b r3.1
 let l:=num z b f.2
 (⟨r0.2,r3.2,fb f.1 1,fb f.1 2,fb f.1 4,l.1⟩,l.2.2)
def zM:Av:=⟨[],[],false,false,false,0⟩
def BU (b:List Int):Av×Bool:=if(rdM false b).2&&decide (Au (rdM false b).1=b)&&decide (0<b.length)then((rdM false b).1,true)else(zM,false)
theorem GU {z:Bool} {b:List Int} (hb:byt b) {c:Nat×Bool} (hc:c.1<=b.length): ∀j,(rd3 z b c j).1.1<=b.length/\(rd3 z b c j).2.length=j/\ ∀x∈(rd3 z b c j).2,x.length<=b.length+1
 |0=>⟨hc,rfl,fun x hx=>by cases hx⟩
 |j+1=>by
  obtain⟨h1,h2,h3⟩:=GU (z:=z) hb hc j;obtain⟨g1,g2⟩:=Kh (z:=z) h1;refine⟨g1,by simp[rd3,h2],fun x hx=> ?_⟩;rcases List.mem_append.1 hx with hx|hx
  ·exact h3 x hx
  ·rw[List.mem_singleton.1 hx];exact g2
@[simp] def st185 (b:List Int) (c:Nat×Bool) (g:List Int):Nat->St
 |0=>{n:=65,m:=0,tm:=[(0,.im 1 (enc fU b)),(2,.pb 10000000 0),(4,.pb 10000001 0),(5,.pb 10000002 0),(6,.sc (.int .i64 0))],ob:=[(10000000,.box [.nil 1,.nil 1,.sc (.bool false),.sc (.bool false),.sc (.bool false),.sc (.int .i64 0)]),(10000001,.box [.im 1 (enc fU b),.sc (.int .i64 (rd3 false b c 0).1.1),.sc (.bool (rd3 false b c 0).1.2)]),(10000002,.box [.ref 10000003 [],.nil 1,.sc (.bool false),.sc (.bool false),.sc (.bool false),.sc (.int .i64 0)]),(10000003,.arr 1 (enc fI g))]}
 |j+1=>{n:=65,m:=0,tm:=[(0,.im 1 (enc fU b)),(2,.pb 10000000 0),(4,.pb 10000001 0),(5,.pb 10000002 0),(6,.sc (.int .i64 ((j+1:Nat):Int)))],ob:=[(10000000,.box [.nil 1,.nil 1,.sc (.bool false),.sc (.bool false),.sc (.bool false),.sc (.int .i64 0)]),(10000001,.box [.im 1 (enc fU b),.sc (.int .i64 (rd3 false b c (j+1)).1.1),.sc (.bool (rd3 false b c (j+1)).1.2)]),(10000002,.box [.ref 10000003 [],.ref 10000004 [],.sc (.bool false),.sc (.bool false),.sc (.bool false),.sc (.int .i64 0)]),(10000003,.arr 1 (enc fI g)),(10000004,.arr 1 (enc fII (rd3 false b c (j+1)).2))]}
theorem step99 (b:List Int) (c:Nat×Bool) (g:List Int) (hb:byt b) (hc:c.1<=b.length): ∀j,j<3-> ∃s',An (AH G PK md) (Ag G PK md) md b185_0 (st185 b c g j)=some (.normal,s')/\s'.m<=10000000/\Ai 10000000 [0,2,4,5,6] s'=st185 b c g (j+1)
 |0,_=>by
  have hbl:=hb.1;obtain⟨i1,i2,_⟩:=GU (z:=false) hb hc 0;have e:=Jo (PK:=PK) b (rd3 false b c 0).1 hb (by omega);have hnx:rd3 false b c (0+1)=((rdl false b (rd3 false b c 0).1).1,(rd3 false b c 0).2++[(rdl false b (rd3 false b c 0).1).2]):=rfl;simp only[crs]at e;have hz:(rd3 false b c 0).2=[]:=rfl;rw[hz]at hnx;simp only[st185];rw[hnx];generalize (rdl false b (rd3 false b c 0).1).1=c1 at e ⊢;generalize (rdl false b (rd3 false b c 0).1).2=l at e ⊢;generalize (rd3 false b c 0).1=c0 at e ⊢;have hap:([[T.sl 1 (enc fI l)]]:List (List T))=enc fII [l]:=rfl;simp[b185_0,md,e,CX]
 |j+1,hj=>by
  have hbl:=hb.1;obtain⟨i1,i2,_⟩:=GU (z:=false) hb hc (j+1);have e:=Jo (PK:=PK) b (rd3 false b c (j+1)).1 hb (by omega);have hnx:rd3 false b c ((j+1)+1)=((rdl false b (rd3 false b c (j+1)).1).1,(rd3 false b c (j+1)).2++[(rdl false b (rd3 false b c (j+1)).1).2]):=rfl;simp only[crs]at e;have hj3:((j:Int)+1)<3:=by omega
  simp only[st185];rw[hnx];generalize (rdl false b (rd3 false b c (j+1)).1).1=c1 at e ⊢;generalize (rdl false b (rd3 false b c (j+1)).1).2=l at e ⊢;generalize (rd3 false b c (j+1)).1=c0 at e ⊢;generalize (rd3 false b c (j+1)).2=ll at i2 ⊢;have hap:enc fII ll++[[T.sl 1 (enc fI l)]]=enc fII (ll++[l]):=by simp[enc]
  have hinc:IntKind.wrap .i64 ((j:Int)+1+1)=(j:Int)+1+1:=AC (by omega) (by omega);have hlen:(j+1+1)*24<=35184372088832:=by omega
  simp[b185_0,md,hj3,e,hap,hinc,i2,hlen]
@[simp] def st194 (b:List Int) (c:Nat×Bool) (g:List Int):Nat->St
 |0=>{n:=64,m:=0,tm:=[(0,.im 1 (enc fU b)),(2,.pb 10000000 0),(4,.pb 10000001 0),(5,.pb 10000002 0),(16,.sc (.int .i64 0))],ob:=[(10000000,.box [.nil 1,.nil 1,.sc (.bool false),.sc (.bool false),.sc (.bool false),.sc (.int .i64 0)]),(10000001,.box [.im 1 (enc fU b),.sc (.int .i64 (rd3 true b c 0).1.1),.sc (.bool (rd3 true b c 0).1.2)]),(10000002,.box [.ref 10000003 [],.nil 1,.sc (.bool false),.sc (.bool false),.sc (.bool false),.sc (.int .i64 0)]),(10000003,.arr 1 (enc fI g))]}
 |j+1=>{n:=64,m:=0,tm:=[(0,.im 1 (enc fU b)),(2,.pb 10000000 0),(4,.pb 10000001 0),(5,.pb 10000002 0),(16,.sc (.int .i64 ((j+1:Nat):Int)))],ob:=[(10000000,.box [.nil 1,.nil 1,.sc (.bool false),.sc (.bool false),.sc (.bool false),.sc (.int .i64 0)]),(10000001,.box [.im 1 (enc fU b),.sc (.int .i64 (rd3 true b c (j+1)).1.1),.sc (.bool (rd3 true b c (j+1)).1.2)]),(10000002,.box [.ref 10000003 [],.ref 10000004 [],.sc (.bool false),.sc (.bool false),.sc (.bool false),.sc (.int .i64 0)]),(10000003,.arr 1 (enc fI g)),(10000004,.arr 1 (enc fII (rd3 true b c (j+1)).2))]}
theorem step113 (b:List Int) (c:Nat×Bool) (g:List Int) (hb:byt b) (hc:c.1<=b.length): ∀j,j<3-> ∃s',An (AH G PK md) (Ag G PK md) md b194_0 (st194 b c g j)=some (.normal,s')/\s'.m<=10000000/\Ai 10000000 [0,2,4,5,16] s'=st194 b c g (j+1)
 |0,_=>by
  have hbl:=hb.1;obtain⟨i1,i2,_⟩:=GU (z:=true) hb hc 0;have e:=Oc (PK:=PK) b (rd3 true b c 0).1 hb (by omega);have hnx:rd3 true b c (0+1)=((rdl true b (rd3 true b c 0).1).1,(rd3 true b c 0).2++[(rdl true b (rd3 true b c 0).1).2]):=rfl;simp only[crs]at e;have hz:(rd3 true b c 0).2=[]:=rfl;rw[hz]at hnx;simp only[st194];rw[hnx];generalize (rdl true b (rd3 true b c 0).1).1=c1 at e ⊢;generalize (rdl true b (rd3 true b c 0).1).2=l at e ⊢;generalize (rd3 true b c 0).1=c0 at e ⊢;have hap:([[T.sl 1 (enc fI l)]]:List (List T))=enc fII [l]:=rfl;simp[b194_0,md,e,CX]
 |j+1,hj=>by
  have hbl:=hb.1;obtain⟨i1,i2,_⟩:=GU (z:=true) hb hc (j+1);have e:=Oc (PK:=PK) b (rd3 true b c (j+1)).1 hb (by omega);have hnx:rd3 true b c ((j+1)+1)=((rdl true b (rd3 true b c (j+1)).1).1,(rd3 true b c (j+1)).2++[(rdl true b (rd3 true b c (j+1)).1).2]):=rfl;simp only[crs]at e;have hj3:((j:Int)+1)<3:=by omega
  simp only[st194];rw[hnx];generalize (rdl true b (rd3 true b c (j+1)).1).1=c1 at e ⊢;generalize (rdl true b (rd3 true b c (j+1)).1).2=l at e ⊢;generalize (rd3 true b c (j+1)).1=c0 at e ⊢;generalize (rd3 true b c (j+1)).2=ll at i2 ⊢;have hap:enc fII ll++[[T.sl 1 (enc fI l)]]=enc fII (ll++[l]):=by simp[enc]
  have hinc:IntKind.wrap .i64 ((j:Int)+1+1)=(j:Int)+1+1:=AC (by omega) (by omega);have hlen:(j+1+1)*24<=35184372088832:=by omega
  simp[b194_0,md,hj3,e,hap,hinc,i2,hlen]
def by8 (l:List Int):Prop:= ∀x∈l,0<=x/\x<256
theorem Bk {l m:List Int} (h1:by8 l) (h2:by8 m):by8 (l++m):=fun x hx=>(List.mem_append.1 hx).elim (h1 x) (h2 x)
theorem Kb (x:Int):0<=IntKind.wrap .u8 x/\IntKind.wrap .u8 x<256:=by rw[Fg];omega
theorem po_by (n:Int): ∀j,by8 (po n j)
 |0=>fun x hx=>by cases hx
 |j+1=>Bk (po_by n j) fun x hx=>by rw[List.mem_singleton.1 hx];exact Kb _
theorem FH (n:Int):by8 (Al n):=Bk (po_by n _) fun x hx=>by rw[List.mem_singleton.1 hx];exact Kb _
theorem Qi (l:List Int):by8 (pns l):=fun x hx=>by
 unfold pns at hx;obtain⟨y,hy,hxy⟩:=List.mem_flatten.1 hx;obtain⟨n,_,rfl⟩:=List.mem_map.1 hy;exact FH n x hxy
theorem pl_by (l:List Int):by8 (pl l):=Bk (FH _) (Qi l)
theorem pls_by (l:List (List Int)):by8 (pls l):=fun x hx=>by
 unfold pls at hx;obtain⟨y,hy,hxy⟩:=List.mem_flatten.1 hx;obtain⟨n,_,rfl⟩:=List.mem_map.1 hy;exact pl_by n x hxy
theorem SZ (m:Av):by8 (Gi m):=Bk (Bk (pl_by _) (pls_by _)) (Bk (FH _) (FH _))
theorem Cn (m:Av):by8 (Au m):=by
 unfold Au;split
 ·exact SZ m
 ·exact fun x hx=>by cases hx
theorem Qe {z:Bool} {b:List Int} (hb:byt b) (hb2:b.length<=1000):mtS (rdM z b).1:=by
 obtain⟨g1,g2⟩:=Kh (z:=z) (b:=b) (c:=(0,true)) (Nat.zero_le _);obtain⟨h1,h2,h3⟩:=GU (z:=z) hb g1 3;refine⟨?_,?_,fun x hx=> ?_⟩
 ·show (rdl z b (0,true)).2.length<=_
  omega
 ·show (rd3 z b (rdl z b (0,true)).1 3).2.length<=_
  omega
 ·have:=h3 x hx;omega
theorem L6 (b:List Int) (hb:byt b) (hb2:b.length<=1000):AH G PK md 185 [.v (.im 1 (enc fU b))]=some ⟨[.a (AD (fM (BU b).1)),.v (.sc (.bool (BU b).2))],[],[]⟩:=by
 refine AA (pf:=p185) rfl (by simp[p185]) ?_;have hmt:=Qe (z:=false) hb hb2;have e7:=Gv (PK:=PK) (rdM false b).1 hmt;have hstr:=QP (Cn (rdM false b).1) hb.2;have hM:rdM false b=(⟨(rdl false b (0,true)).2,(rd3 false b (rdl false b (0,true)).1 3).2,fb (num false b (rd3 false b (rdl false b (0,true)).1 3).1).1 1,fb (num false b (rd3 false b (rdl false b (0,true)).1 3).1).1 2,fb (num false b (rd3 false b (rdl false b (0,true)).1 3).1).1 4,(num false b (num false b (rd3 false b (rdl false b (0,true)).1 3).1).2).1⟩,(num false b (num false b (rd3 false b (rdl false b (0,true)).1 3).1).2).2.2):=rfl;have e0:=Jo (PK:=PK) b (0,true) hb (by simp);obtain⟨g1,g2⟩:=Kh (z:=false) (b:=b) (c:=(0,true)) (Nat.zero_le _);have hstep:=step99 (PK:=PK) b (rdl false b (0,true)).1 (rdl false b (0,true)).2 hb g1;obtain⟨h1,h2,h3⟩:=GU (z:=false) hb g1 3;have e5:=Cf (PK:=PK) b (rd3 false b (rdl false b (0,true)).1 3).1 hb (by omega);have h5:=Lb (z:=false) (b:=b) (rd3 false b (rdl false b (0,true)).1 3).1 h1;have e6:=Cf (PK:=PK) b (num false b (rd3 false b (rdl false b (0,true)).1 3).1).2 hb (by omega);have hsz:=AL (G:=G) (PK:=PK) (md:=md) (o:=10000000) (live:=[0,2,4,5,6]) (c:=b185_0) (st185 b (rdl false b (0,true)).1 (rdl false b (0,true)).2) 3 hstep (by simp[b185_0]);have hz1:(rd3 false b (rdl false b (0,true)).1 0).1=(rdl false b (0,true)).1:=rfl;unfold BU;rw[hM]at hmt e7 hstr ⊢;clear hM hstep h3 h5 hmt;simp only[crs,AJ,lent,fM]at e0 e5 e6 e7;rw[show (((0:Nat):Int))=0 from rfl]at e0;simp[p185,md,e0];rw[hsz]
 ·clear hsz hz1 e0;simp only[st185];generalize (rdl false b (0,true)).2=g at*;generalize (rdl false b (0,true)).1=c at*;generalize (rd3 false b c 3).2=ll at*;generalize (rd3 false b c 3).1=c3 at*;generalize (num false b c3).1=f at*;generalize (num false b c3).2=c4 at*;generalize (num false b c4).1=l at*;generalize (num false b c4).2=c5 at*;have hmbb:=Cn ⟨g,ll,fb f 1,fb f 2,fb f 4,l⟩;generalize Au ⟨g,ll,fb f 1,fb f 2,fb f 4,l⟩=mb at*;unfold fb at*
  cases hok:c5.2 with
  |false=>simp[b185_0,md,AF,e5,e6,hok,zM]
  |true=>
   by_cases hmb:mb=b
   ·by_cases hlen:0<b.length
    ·have hbn: ¬b=[]:=fun h=>by rw[h]at hlen;simp at hlen
     have hbl0: ¬ (b.length:Int)=0:=by omega
     simp[b185_0,md,AF,e5,e6,e7,hok,BN,hstr,hmb,hlen,hbn,hbl0]
    ·have hl0:b.length=0:=by omega
     simp[b185_0,md,AF,e5,e6,e7,hok,BN,hstr,hmb,hl0,zM]
   ·have hu: ¬u8s mb=u8s b:=fun h=>hmb (Fh hmbb hb.2 h)
    simp[b185_0,md,AF,e5,e6,e7,hok,BN,hmb,hu,zM]
 ·simp
 ·simp[hz1]
theorem TS {b:List Int} {c d:Nat×Bool} (h:ag c d): ∀j,(rd3 false b c j).2=(rd3 true b d j).2/\ag (rd3 false b c j).1 (rd3 true b d j).1
 |0=>⟨rfl,h⟩
 |j+1=>by
  obtain⟨h1,h2⟩:=TS (b:=b) h j;obtain⟨g1,g2⟩:=TR (b:=b) h2;simp only[rd3];rw[h1,g1];exact⟨rfl,g2⟩
theorem rdM_ag (b:List Int):rdM true b=rdM false b:=by
 obtain⟨a1,a2⟩:=TR (b:=b) (c:=(0,true)) (d:=(0,true)) ⟨rfl,fun _=>rfl⟩;obtain⟨b1,b2⟩:=TS (b:=b) a2 3;obtain⟨c1,c2⟩:=OD (b:=b) b2;obtain⟨d1,d2⟩:=OD (b:=b) c2;unfold rdM;simp only;rw[a1,b1,c1,d1,d2.1]
theorem MM (b:List Int) (hb:byt b) (hb2:b.length<=1000):AH G PK md 194 [.v (.im 1 (enc fU b))]=some ⟨[.a (AD (fM (BU b).1)),.v (.sc (.bool (BU b).2))],[],[]⟩:=by
 refine AA (pf:=p194) rfl (by simp[p194]) ?_;have hmt:=Qe (z:=true) hb hb2;have e7:=G0 (PK:=PK) (rdM true b).1 hmt;have e8:=Hp (PK:=PK) (Au (rdM true b).1) b (Cn _) hb.2;have hM:rdM true b=(⟨(rdl true b (0,true)).2,(rd3 true b (rdl true b (0,true)).1 3).2,fb (num true b (rd3 true b (rdl true b (0,true)).1 3).1).1 1,fb (num true b (rd3 true b (rdl true b (0,true)).1 3).1).1 2,fb (num true b (rd3 true b (rdl true b (0,true)).1 3).1).1 4,(num true b (num true b (rd3 true b (rdl true b (0,true)).1 3).1).2).1⟩,(num true b (num true b (rd3 true b (rdl true b (0,true)).1 3).1).2).2.2):=rfl;have e0:=Oc (PK:=PK) b (0,true) hb (by simp);obtain⟨g1,g2⟩:=Kh (z:=true) (b:=b) (c:=(0,true)) (Nat.zero_le _);have hstep:=step113 (PK:=PK) b (rdl true b (0,true)).1 (rdl true b (0,true)).2 hb g1;obtain⟨h1,h2,h3⟩:=GU (z:=true) hb g1 3;have e5:=Ob (PK:=PK) b (rd3 true b (rdl true b (0,true)).1 3).1 hb (by omega);have h5:=Lb (z:=true) (b:=b) (rd3 true b (rdl true b (0,true)).1 3).1 h1;have e6:=Ob (PK:=PK) b (num true b (rd3 true b (rdl true b (0,true)).1 3).1).2 hb (by omega);have hsz:=AL (G:=G) (PK:=PK) (md:=md) (o:=10000000) (live:=[0,2,4,5,16]) (c:=b194_0) (st194 b (rdl true b (0,true)).1 (rdl true b (0,true)).2) 3 hstep (by simp[b194_0]);have hz1:(rd3 true b (rdl true b (0,true)).1 0).1=(rdl true b (0,true)).1:=rfl;unfold BU;rw[←rdM_ag];rw[hM]at hmt e7 e8 ⊢;clear hM hstep h3 h5 hmt;simp only[crs,AJ,lent,fM]at e0 e5 e6 e7;rw[show (((0:Nat):Int))=0 from rfl]at e0;simp[p194,md,e0];rw[hsz]
 ·clear hsz hz1 e0;simp only[st194];generalize (rdl true b (0,true)).2=g at*;generalize (rdl true b (0,true)).1=c at*;generalize (rd3 true b c 3).2=ll at*;generalize (rd3 true b c 3).1=c3 at*;generalize (num true b c3).1=f at*;generalize (num true b c3).2=c4 at*;generalize (num true b c4).1=l at*;generalize (num true b c4).2=c5 at*;generalize Au ⟨g,ll,fb f 1,fb f 2,fb f 4,l⟩=mb at*;unfold fb at*
  cases hok:c5.2 with
  |false=>simp[b194_0,md,AF,e5,e6,e7,hok,zM]
  |true=>
   by_cases hmb:mb=b
   ·rw[hmb]at e7 e8;by_cases hlen:0<b.length
    ·have hbn: ¬b=[]:=fun h=>by rw[h]at hlen;simp at hlen
     have hbl0: ¬ (b.length:Int)=0:=by omega
     simp[b194_0,md,AF,e5,e6,e7,e8,hok,hmb,hlen,hbn,hbl0]
    ·have hl0:b.length=0:=by omega
     simp[b194_0,md,AF,e5,e6,e7,e8,hok,hmb,hl0,zM]
   ·have hd:decide (mb=b)=false:=decide_eq_false hmb;rw[hd]at e8;by_cases hl0:mb.length=0
    ·simp[b194_0,md,AF,e5,e6,e7,e8,hok,hmb,hl0,zM]
    ·have hbn: ¬mb=[]:=fun h=>by rw[h]at hl0;simp at hl0
     simp[b194_0,md,AF,e5,e6,e7,e8,hok,hmb,hbn,zM]
 ·simp
 ·simp[hz1]
def slN (b:List Int):Int:=b.getD 0 0+b.getD 1 0*256+b.getD 2 0*65536+b.getD 3 0*16777216
def slB (b:List Int):List Int:=(b.take (5+b.getD 4 0).toNat).drop 5
def Aq (b:List Int):Av×Int×Bool:=
 if b.length=160/\inB (slN b) 1 1000000=true/\b.getD 4 0<=151/\(BU (slB b)).2=true/\EE (Au (BU (slB b)).1) (slN b)=b then((BU (slB b)).1,slN b,true)else(zM,0,false)
theorem N2 {b:List Int} (hb:byt b) (h:b.length=160):byt (slB b)/\(slB b).length<=155:=
 ⟨⟨by unfold slB;rw[List.length_drop,List.length_take];omega,fun x hx=>hb.2 x (List.mem_of_mem_take (List.mem_of_mem_drop hx))⟩,by unfold slB;rw[List.length_drop,List.length_take];omega⟩
theorem Jb {b:List Int} (hb:byt b) (hb2:b.length<=1000):mtS (BU b).1:=by
 unfold BU;split
 ·exact Qe hb hb2
 ·exact⟨by simp[zM],by simp[zM],fun x hx=>by cases hx⟩
theorem Iz {b:List Int} (h:(BU b).2=true):Au (BU b).1=b:=by
 unfold BU at h ⊢;split at h
 ·rename_i hc;rw[if_pos hc];simp only[Bool.and_eq_true,decide_eq_true_eq]at hc;exact hc.1.2
 ·cases h
theorem LD {x:List Int} (hx:by8 x) (n:Int):by8 (EE x n):=by
 unfold EE CT;refine Bk (Bk (Bk (Bk (Rx n) fun y hy=> ?_) hx) fun y hy=> ?_) (Rx n)
 ·rw[List.mem_singleton.1 hy];omega
 ·rw[(List.mem_replicate.1 hy).2];omega
theorem DY (b:List Int) (hb:byt b):AH G PK md 172 [.v (.im 1 (enc fU b))]=some ⟨[.a (AD (fM (Aq b).1)),.v (.sc (.int .i64 (Aq b).2.1)),.v (.sc (.bool (Aq b).2.2))],[],[]⟩:=by
 refine AA (pf:=p172) rfl (by simp[p172]) ?_;by_cases hl:b.length=160
 ·obtain⟨x0,i0,hx0,hy0,hd0⟩:=AT b (j:=0) (by omega);obtain⟨x1,i1,hx1,hy1,hd1⟩:=AT b (j:=1) (by omega);obtain⟨x2,i2,hx2,hy2,hd2⟩:=AT b (j:=2) (by omega);obtain⟨x3,i3,hx3,hy3,hd3⟩:=AT b (j:=3) (by omega);obtain⟨x4,i4,hx4,hy4,hd4⟩:=AT b (j:=4) (by omega);have r0:=hb.2 x0 (List.mem_of_getElem? hx0);have r1:=hb.2 x1 (List.mem_of_getElem? hx1);have r2:=hb.2 x2 (List.mem_of_getElem? hx2);have r3:=hb.2 x3 (List.mem_of_getElem? hx3);have r4:=hb.2 x4 (List.mem_of_getElem? hx4);have b1:min 8 IntKind.i64.bits=8:=rfl;have b2:min 16 IntKind.i64.bits=16:=rfl;have b3:min 24 IntKind.i64.bits=24:=rfl;have c0:IntKind.wrap .i64 x0=x0:=AC (by omega) (by omega);have c1:IntKind.wrap .i64 x1=x1:=AC (by omega) (by omega);have c2:IntKind.wrap .i64 x2=x2:=AC (by omega) (by omega);have c3:IntKind.wrap .i64 x3=x3:=AC (by omega) (by omega);have c4:IntKind.wrap .i64 x4=x4:=AC (by omega) (by omega);have s1:IntKind.wrap .i64 (x1*256)=x1*256:=AC (by omega) (by omega);have s2:IntKind.wrap .i64 (x2*65536)=x2*65536:=AC (by omega) (by omega);have s3:IntKind.wrap .i64 (x3*16777216)=x3*16777216:=AC (by omega) (by omega);have t1:IntKind.wrap .i64 (x0+x1*256)=x0+x1*256:=AC (by omega) (by omega);have t2:IntKind.wrap .i64 (x0+x1*256+x2*65536)=x0+x1*256+x2*65536:=AC (by omega) (by omega);have t3:IntKind.wrap .i64 (x0+x1*256+x2*65536+x3*16777216)=slN b:=by rw[AC (by omega) (by omega)];unfold slN;rw[hd0,hd1,hd2,hd3]
  have e0:=Aj (PK:=PK) (slN b) 1 1000000;have hl2:(b.length:Int)=160:=by omega
  by_cases hin:inB (slN b) 1 1000000=true
  ·rw[hin]at e0;by_cases h4:x4<=151
   ·have hn4: ¬ 151<x4:=by omega
    have w5:IntKind.wrap .i64 (5+x4)=5+x4:=AC (by omega) (by omega);obtain⟨q1,q2⟩:=N2 hb hl;have e1:=L6 (PK:=PK) (slB b) q1 (by omega);have hmm:=Jb q1 (by omega);have hwin:List.drop 5 (List.take (5+x4).toNat (enc fU b))=enc fU (slB b):=by unfold slB;rw[hd4,A5,CM]
    have g0:0<=5+x4:=by omega
    have g1:5<=(5+x4).toNat:=by omega
    have g2:(5+x4).toNat<=160:=by omega
    simp only[AD,AX,fM]at e1
    cases hok:(BU (slB b)).2 with
    |false=>
     have hr:Aq b=(zM,0,false):=by unfold Aq;rw[if_neg (fun h=>by rw[hok]at h;cases h.2.2.2.1)]
     rw[hr];rw[hok]at e1;simp[p172,md,hl,hy0,hy1,hy2,hy3,hy4,b1,b2,b3,c0,c1,c2,c3,c4,s1,s2,s3,t1,t2,t3,e0,hn4,w5,hwin,g0,g1,g2,e1,AF,zM]
    |true=>
     have hmb:=Iz hok;have hsl:(slB b).length<=151:=by unfold slB;rw[hd4,List.length_drop,List.length_take];omega
     have e2:=Nj (PK:=PK) (BU (slB b)).1 (slN b) hmm (by rw[hmb];exact hsl);have hby:=LD (Cn (BU (slB b)).1) (slN b);simp only[AJ,lent,fM]at e2;rw[hok]at e1;by_cases heq:EE (Au (BU (slB b)).1) (slN b)=b
     ·have hr:Aq b=((BU (slB b)).1,slN b,true):=by unfold Aq;rw[if_pos ⟨hl,hin,by rw[hd4];exact h4,hok,heq⟩]
      rw[hr];rw[heq]at e2;simp[p172,md,hl,hy0,hy1,hy2,hy3,hy4,b1,b2,b3,c0,c1,c2,c3,c4,s1,s2,s3,t1,t2,t3,e0,hn4,w5,hwin,g0,g1,g2,e1,e2,BN,AF]
     ·have hr:Aq b=(zM,0,false):=by unfold Aq;rw[if_neg (fun h=>heq h.2.2.2.2)]
      rw[hr];have hu: ¬u8s (EE (Au (BU (slB b)).1) (slN b))=u8s b:=fun h=>heq (Fh hby hb.2 h)
      simp[p172,md,hl,hy0,hy1,hy2,hy3,hy4,b1,b2,b3,c0,c1,c2,c3,c4,s1,s2,s3,t1,t2,t3,e0,hn4,w5,hwin,g0,g1,g2,e1,e2,BN,hu,AF,zM]
   ·have hr:Aq b=(zM,0,false):=by unfold Aq;rw[if_neg (fun h=>h4 (by rw[←hd4];exact h.2.2.1))]
    rw[hr];have hn4:151<x4:=by omega
    simp[p172,md,hl,hy0,hy1,hy2,hy3,hy4,b1,b2,b3,c0,c1,c2,c3,c4,s1,s2,s3,t1,t2,t3,e0,hn4,zM]
  ·have hr:Aq b=(zM,0,false):=by unfold Aq;rw[if_neg (fun h=>hin h.2.1)]
   rw[hr];have hin':inB (slN b) 1 1000000=false:=by simpa using hin
   rw[hin']at e0;simp[p172,md,hl,hy0,hy1,hy2,hy3,hy4,b1,b2,b3,c0,c1,c2,c3,c4,s1,s2,s3,t1,t2,t3,e0,zM]
 ·have hr:Aq b=(zM,0,false):=by unfold Aq;rw[if_neg (fun h=>hl h.1)]
  rw[hr];have hl2: ¬ (b.length:Int)=160:=by omega
  simp[p172,md,hl2,zM]
theorem Ta {A B:Int} (i:Nat) (h0:0<=A) (h1:A<2 ^ i) (h2:0<=B) (h3:B%2 ^ i=0) (h4:B<9223372036854775808/\A<9223372036854775808):bits .or .i64 A B=A+B:=
 bits_join_low .i64 63 (by decide) (fun n hn hn'=>AC (by omega) (by omega)) i A B h0 h1 (by omega) h2 h3 (by omega)
theorem Gz (b:List Int) (hb:byt b):AH G PK md 184 [.v (.im 1 (enc fU b))]=some ⟨[.a (AD (fM (Aq b).1)),.v (.sc (.int .i64 (Aq b).2.1)),.v (.sc (.bool (Aq b).2.2))],[],[]⟩:=by
 refine AA (pf:=p184) rfl (by simp[p184]) ?_;by_cases hl:b.length=160
 ·obtain⟨x0,i0,hx0,hy0,hd0⟩:=AT b (j:=0) (by omega);obtain⟨x1,i1,hx1,hy1,hd1⟩:=AT b (j:=1) (by omega);obtain⟨x2,i2,hx2,hy2,hd2⟩:=AT b (j:=2) (by omega);obtain⟨x3,i3,hx3,hy3,hd3⟩:=AT b (j:=3) (by omega);obtain⟨x4,i4,hx4,hy4,hd4⟩:=AT b (j:=4) (by omega);have r0:=hb.2 x0 (List.mem_of_getElem? hx0);have r1:=hb.2 x1 (List.mem_of_getElem? hx1);have r2:=hb.2 x2 (List.mem_of_getElem? hx2);have r3:=hb.2 x3 (List.mem_of_getElem? hx3);have r4:=hb.2 x4 (List.mem_of_getElem? hx4);have b1:min 8 IntKind.i64.bits=8:=rfl;have b2:min 16 IntKind.i64.bits=16:=rfl;have b3:min 24 IntKind.i64.bits=24:=rfl;have c0:IntKind.wrap .i64 x0=x0:=AC (by omega) (by omega);have c1:IntKind.wrap .i64 x1=x1:=AC (by omega) (by omega);have c2:IntKind.wrap .i64 x2=x2:=AC (by omega) (by omega);have c3:IntKind.wrap .i64 x3=x3:=AC (by omega) (by omega);have c4:IntKind.wrap .i64 x4=x4:=AC (by omega) (by omega);have s1:IntKind.wrap .i64 (x1*256)=x1*256:=AC (by omega) (by omega);have s2:IntKind.wrap .i64 (x2*65536)=x2*65536:=AC (by omega) (by omega);have s3:IntKind.wrap .i64 (x3*16777216)=x3*16777216:=AC (by omega) (by omega);have t1:bits .or .i64 x0 (x1*256)=x0+x1*256:=Ta 8 (by omega) (by omega) (by omega) (by omega) (by omega);have t2:bits .or .i64 (x0+x1*256) (x2*65536)=x0+x1*256+x2*65536:=Ta 16 (by omega) (by omega) (by omega) (by omega) (by omega);have t3:bits .or .i64 (x0+x1*256+x2*65536) (x3*16777216)=slN b:=by rw[Ta 24 (by omega) (by omega) (by omega) (by omega) (by omega)];unfold slN;rw[hd0,hd1,hd2,hd3]
  have e0:=CJ (PK:=PK) (slN b) 1 1000000;have hl2:(b.length:Int)=160:=by omega
  by_cases hin:inB (slN b) 1 1000000=true
  ·rw[hin]at e0;by_cases h4:x4<=151
   ·have hn4: ¬ 151<x4:=by omega
    have w5:IntKind.wrap .i64 (5+x4)=5+x4:=AC (by omega) (by omega);obtain⟨q1,q2⟩:=N2 hb hl;have e1:=MM (PK:=PK) (slB b) q1 (by omega);have hmm:=Jb q1 (by omega);have hwin:List.drop 5 (List.take (5+x4).toNat (enc fU b))=enc fU (slB b):=by unfold slB;rw[hd4,A5,CM]
    have g0:0<=5+x4:=by omega
    have g1:5<=(5+x4).toNat:=by omega
    have g2:(5+x4).toNat<=160:=by omega
    simp only[AD,AX,fM]at e1
    cases hok:(BU (slB b)).2 with
    |false=>
     have hr:Aq b=(zM,0,false):=by unfold Aq;rw[if_neg (fun h=>by rw[hok]at h;cases h.2.2.2.1)]
     rw[hr];rw[hok]at e1;simp[p184,md,hl,hy0,hy1,hy2,hy3,hy4,b1,b2,b3,c0,c1,c2,c3,c4,s1,s2,s3,t1,t2,t3,e0,hn4,w5,hwin,g0,g1,g2,e1,AF,zM]
    |true=>
     have hmb:=Iz hok;have hsl:(slB b).length<=151:=by unfold slB;rw[hd4,List.length_drop,List.length_take];omega
     have e2:=Oa (PK:=PK) (BU (slB b)).1 (slN b) hmm (by rw[hmb];exact hsl);have hby:=LD (Cn (BU (slB b)).1) (slN b);have e3:=Hp (PK:=PK) (EE (Au (BU (slB b)).1) (slN b)) b hby hb.2;simp only[AJ,lent,fM]at e2;rw[hok]at e1;by_cases heq:EE (Au (BU (slB b)).1) (slN b)=b
     ·have hr:Aq b=((BU (slB b)).1,slN b,true):=by unfold Aq;rw[if_pos ⟨hl,hin,by rw[hd4];exact h4,hok,heq⟩]
      rw[hr];rw[heq]at e2 e3;simp[p184,md,hl,hy0,hy1,hy2,hy3,hy4,b1,b2,b3,c0,c1,c2,c3,c4,s1,s2,s3,t1,t2,t3,e0,hn4,w5,hwin,g0,g1,g2,e1,e2,e3,AF]
     ·have hr:Aq b=(zM,0,false):=by unfold Aq;rw[if_neg (fun h=>heq h.2.2.2.2)]
      rw[hr];have hu: ¬u8s (EE (Au (BU (slB b)).1) (slN b))=u8s b:=fun h=>heq (Fh hby hb.2 h)
      simp[p184,md,hl,hy0,hy1,hy2,hy3,hy4,b1,b2,b3,c0,c1,c2,c3,c4,s1,s2,s3,t1,t2,t3,e0,hn4,w5,hwin,g0,g1,g2,e1,e2,e3,heq,AF,zM]
   ·have hr:Aq b=(zM,0,false):=by unfold Aq;rw[if_neg (fun h=>h4 (by rw[←hd4];exact h.2.2.1))]
    rw[hr];have hn4:151<x4:=by omega
    simp[p184,md,hl,hy0,hy1,hy2,hy3,hy4,b1,b2,b3,c0,c1,c2,c3,c4,s1,s2,s3,t1,t2,t3,e0,hn4,zM]
  ·have hr:Aq b=(zM,0,false):=by unfold Aq;rw[if_neg (fun h=>hin h.2.1)]
   rw[hr];have hin':inB (slN b) 1 1000000=false:=by simpa using hin
   rw[hin']at e0;simp[p184,md,hl,hy0,hy1,hy2,hy3,hy4,b1,b2,b3,c0,c1,c2,c3,c4,s1,s2,s3,t1,t2,t3,e0,zM]
 ·have hr:Aq b=(zM,0,false):=by unfold Aq;rw[if_neg (fun h=>hl h.1)]
  rw[hr];have hl2: ¬ (b.length:Int)=160:=by omega
  simp[p184,md,hl2,zM]
def slS (s:A8):Prop:=byt s.a/\byt s.b
def LW (s:A8):Bool:=(Aq s.b).2.2&&(!(Aq s.a).2.2||decide ((Aq s.a).2.1<(Aq s.b).2.1))
def Ak (s:A8):Av×Int×Bool:=if LW s then Aq s.b else Aq s.a
def Hb (s:A8):Int:=if LW s then 1 else if(Aq s.a).2.2 then 0 else -1
theorem SM (b:List Int):(Aq b).2.2=decide (0<(Aq b).2.1):=by
 unfold Aq;split
 ·rename_i h;have:=Ab.1 h.2.1;symm;exact decide_eq_true (by show 0<slN b;omega)
 ·rfl
theorem IR (s:A8) (hs:slS s):AH G PK md 157 [.a (AJ (fSl s))]=some ⟨[.v (.sc (.int .i64 (Hb s)))],[],[]⟩:=by
 refine AA (pf:=p157) rfl (by simp[p157]) ?_;have e1:=DY (PK:=PK) s.a hs.1;have e2:=DY (PK:=PK) s.b hs.2;simp only[AD,AX,fM]at e1 e2;unfold Hb LW;generalize Aq s.a=A at e1 ⊢;generalize Aq s.b=B at e2 ⊢;obtain⟨ma,na,oa⟩:=A;obtain⟨mb,nb,ob⟩:=B
 cases oa<;>cases ob
 ·simp[p157,md,e1,e2]
 ·simp[p157,md,e1,e2]
 ·simp[p157,md,e1,e2]
 ·by_cases h:na<nb
  ·have h': ¬nb<=na:=by omega
   simp[p157,md,e1,e2,h,h']
  ·have h':nb<=na:=by omega
   simp[p157,md,e1,e2,h,h']
theorem C1 (s:A8) (hs:slS s):AH G PK md 133 [.a (AJ (fSl s))]=some ⟨[.a (AD (fM (Ak s).1)),.v (.sc (.int .i64 (Ak s).2.1)),.v (.sc (.bool (Ak s).2.2))],[],[]⟩:=by
 refine AA (pf:=p133) rfl (by simp[p133]) ?_;have e0:=IR (PK:=PK) s hs;have e1:=DY (PK:=PK) s.a hs.1;have e2:=DY (PK:=PK) s.b hs.2;simp only[AD,AX,fM,AJ,lent,fSl]at e0 e1 e2;unfold Ak
 cases hp:LW s with
 |true=>
  have hw:Hb s=1:=by unfold Hb;rw[hp];rfl
  rw[hw]at e0;simp[p133,md,e0,e2]
 |false=>
  have hw: ¬Hb s=1:=by
   unfold Hb;rw[hp]
   cases (Aq s.a).2.2<;>simp
  simp[p133,md,e0,hw,e1]
def isA (s:A8):Bool:=if LW s then false else(Aq s.a).2.2
theorem Sk (s:A8) (hs:slS s):AH G PK md 168 [.a (AJ (fSl s))]=some ⟨[.a (AD (fM (Ak s).1)),.v (.sc (.int .i64 (Ak s).2.1)),.v (.sc (.bool (isA s)))],[],[]⟩:=by
 refine AA (pf:=p168) rfl (by simp[p168]) ?_;have e1:=Gz (PK:=PK) s.a hs.1;have e2:=Gz (PK:=PK) s.b hs.2;simp only[AD,AX,fM]at e1 e2;unfold isA Ak LW;generalize Aq s.a=A at e1 ⊢;generalize Aq s.b=B at e2 ⊢;obtain⟨ma,na,oa⟩:=A;obtain⟨mb,nb,ob⟩:=B
 cases oa<;>cases ob
 ·simp[p168,md,e1,e2]
 ·simp[p168,md,e1,e2]
 ·simp[p168,md,e1,e2]
 ·by_cases h:na<nb
  ·simp[p168,md,e1,e2,h]
  ·simp[p168,md,e1,e2,h]
theorem QT (s:A8):(Ak s).2.2=decide ((Ak s).2.1>0):=by
 unfold Ak;split<;>exact SM _
theorem KX (s:A8) (hs:slS s):AH G PK md 127 [.a (AJ (fSl s))]=some ⟨[.a (AD (fM (Ak s).1)),.v (.sc (.int .i64 (Ak s).2.1)),.v (.sc (.bool (Ak s).2.2))],[],[]⟩:=by
 refine AA (pf:=p127) rfl (by simp[p127]) ?_;have e1:=Sk (PK:=PK) s hs;simp only[AD,AX,fM,AJ,lent,fSl]at e1;rw[QT];simp[p127,md,e1]
end Go.Proofs.YtbolhfegdocpeaaGreat.Ow
