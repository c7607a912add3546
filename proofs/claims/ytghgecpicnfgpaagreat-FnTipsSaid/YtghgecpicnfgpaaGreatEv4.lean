/- A meta out of bytes: evaluated. -/
import Derived.Test.YtghgecpicnfgpaaGreatEv3
namespace Go.Proofs.YtghgecpicnfgpaaGreat.Ow
open Go
set_option linter.unusedVariables false
set_option linter.unusedSimpArgs false
set_option maxHeartbeats 4000000
def rd3 (z:Bool) (b:LI) (c:Nat×Bool):Nat->(Nat×Bool)×List LI
 |0=>(c,[])
 |j+1=>((rdl z b (rd3 z b c j).1).1,(rd3 z b c j).2++[(rdl z b (rd3 z b c j).1).2])
def fb (f k:Int):Bool:=bits .and .i64 f k != 0
def rdM (z:Bool) (b:LI):Ay×Bool:=
 let r0:=rdl z b (0,true)
 let r3:=rd3 z b r0.1 3
 let f:=num z b r3.1
 let l:=num z b f.2
 (⟨r0.2,r3.2,fb f.1 1,fb f.1 2,fb f.1 4,l.1⟩,l.2.2)
def zM:Ay:=⟨[],[],false,false,false,0⟩
def Bh (b:LI):Ay×Bool:=if(rdM false b).2&&decide (Az (rdM false b).1=b)&&decide (0<b.length)then((rdM false b).1,true)else(zM,false)
theorem Hi {z:Bool} {b:LI} (hb:byt b) {c:Nat×Bool} (hc:c.1<=b.length): ∀j,(rd3 z b c j).1.1<=b.length/\(rd3 z b c j).2.length=j/\ ∀x∈(rd3 z b c j).2,x.length<=b.length+1
 |0=>⟨hc,rfl,λx hx=>by cases hx⟩
 |j+1=>by
  obtain⟨h1,h2,h3⟩:=Hi (z:=z) hb hc j;obtain⟨g1,g2⟩:=NF (z:=z) h1;refine⟨g1,by simp[rd3,h2],λx hx=> ?_⟩;rcases List.mem_append.1 hx with hx|hx
  ·exact h3 x hx
  ·rw[List.mem_singleton.1 hx];exact g2
@[simp] def st180 (b:LI) (c:Nat×Bool) (g:LI):Nat->St
 |0=>{n:=65,m:=0,tm:=[(0,.im 1 (enc fU b)),(2,.pb 10000000 0),(4,.pb 10000001 0),(5,.pb 10000002 0),(6,.sc (I6 0))],ob:=[(10000000,.box [.nil 1,.nil 1,.sc (.bool false),.sc (.bool false),.sc (.bool false),.sc (I6 0)]),(10000001,.box [.im 1 (enc fU b),.sc (I6 (rd3 false b c 0).1.1),.sc (.bool (rd3 false b c 0).1.2)]),(10000002,.box [.ref 10000003 [],.nil 1,.sc (.bool false),.sc (.bool false),.sc (.bool false),.sc (I6 0)]),(10000003,.arr 1 (enc fI g))]}
 |j+1=>{n:=65,m:=0,tm:=[(0,.im 1 (enc fU b)),(2,.pb 10000000 0),(4,.pb 10000001 0),(5,.pb 10000002 0),(6,.sc (I6 ((j+1:Nat):Int)))],ob:=[(10000000,.box [.nil 1,.nil 1,.sc (.bool false),.sc (.bool false),.sc (.bool false),.sc (I6 0)]),(10000001,.box [.im 1 (enc fU b),.sc (I6 (rd3 false b c (j+1)).1.1),.sc (.bool (rd3 false b c (j+1)).1.2)]),(10000002,.box [.ref 10000003 [],.ref 10000004 [],.sc (.bool false),.sc (.bool false),.sc (.bool false),.sc (I6 0)]),(10000003,.arr 1 (enc fI g)),(10000004,.arr 1 (enc fII (rd3 false b c (j+1)).2))]}
theorem step99 [PKI] (b:LI) (c:Nat×Bool) (g:LI) (hb:byt b) (hc:c.1<=b.length): ∀j,j<3-> ∃s',xG b180_0 (st180 b c g j)=some (.normal,s')/\s'.m<=10000000/\Aa 10000000 [0,2,4,5,6] s'=st180 b c g (j+1)
 |0,_=>by
  have hbl:=hb.1;obtain⟨i1,i2,_⟩:=Hi (z:=false) hb hc 0;have e:=L6 b (rd3 false b c 0).1 hb (by omega);have hnx:rd3 false b c (0+1)=((rdl false b (rd3 false b c 0).1).1,(rd3 false b c 0).2++[(rdl false b (rd3 false b c 0).1).2]):=rfl;simp only[crs]at e;have hz:(rd3 false b c 0).2=[]:=rfl;rw[hz]at hnx;simp only[st180];rw[hnx];generalize (rdl false b (rd3 false b c 0).1).1=c1 at e ⊢;generalize (rdl false b (rd3 false b c 0).1).2=l at e ⊢;generalize (rd3 false b c 0).1=c0 at e ⊢;have hap:([[T.sl 1 (enc fI l)]]:List (List T))=enc fII [l]:=rfl;simp[b180_0,  e,C6]
 |j+1,hj=>by
  have hbl:=hb.1;obtain⟨i1,i2,_⟩:=Hi (z:=false) hb hc (j+1);have e:=L6 b (rd3 false b c (j+1)).1 hb (by omega);have hnx:rd3 false b c ((j+1)+1)=((rdl false b (rd3 false b c (j+1)).1).1,(rd3 false b c (j+1)).2++[(rdl false b (rd3 false b c (j+1)).1).2]):=rfl;simp only[crs]at e;have hj3:((j:Int)+1)<3:=by omega
  simp only[st180];rw[hnx];generalize (rdl false b (rd3 false b c (j+1)).1).1=c1 at e ⊢;generalize (rdl false b (rd3 false b c (j+1)).1).2=l at e ⊢;generalize (rd3 false b c (j+1)).1=c0 at e ⊢;generalize (rd3 false b c (j+1)).2=ll at i2 ⊢;have hap:enc fII ll++[[T.sl 1 (enc fI l)]]=enc fII (ll++[l]):=by simp[enc]
  have hinc:IntKind.wrap .i64 ((j:Int)+1+1)=(j:Int)+1+1:=AC (by omega) (by omega);have hlen:(j+1+1)*24<=35184372088832:=by omega
  simp[b180_0,  hj3,e,hap,hinc,i2,hlen]
@[simp] def st206 (b:LI) (c:Nat×Bool) (g:LI):Nat->St
 |0=>{n:=64,m:=0,tm:=[(0,.im 1 (enc fU b)),(2,.pb 10000000 0),(4,.pb 10000001 0),(5,.pb 10000002 0),(16,.sc (I6 0))],ob:=[(10000000,.box [.nil 1,.nil 1,.sc (.bool false),.sc (.bool false),.sc (.bool false),.sc (I6 0)]),(10000001,.box [.im 1 (enc fU b),.sc (I6 (rd3 true b c 0).1.1),.sc (.bool (rd3 true b c 0).1.2)]),(10000002,.box [.ref 10000003 [],.nil 1,.sc (.bool false),.sc (.bool false),.sc (.bool false),.sc (I6 0)]),(10000003,.arr 1 (enc fI g))]}
 |j+1=>{n:=64,m:=0,tm:=[(0,.im 1 (enc fU b)),(2,.pb 10000000 0),(4,.pb 10000001 0),(5,.pb 10000002 0),(16,.sc (I6 ((j+1:Nat):Int)))],ob:=[(10000000,.box [.nil 1,.nil 1,.sc (.bool false),.sc (.bool false),.sc (.bool false),.sc (I6 0)]),(10000001,.box [.im 1 (enc fU b),.sc (I6 (rd3 true b c (j+1)).1.1),.sc (.bool (rd3 true b c (j+1)).1.2)]),(10000002,.box [.ref 10000003 [],.ref 10000004 [],.sc (.bool false),.sc (.bool false),.sc (.bool false),.sc (I6 0)]),(10000003,.arr 1 (enc fI g)),(10000004,.arr 1 (enc fII (rd3 true b c (j+1)).2))]}
theorem step113 [PKI] (b:LI) (c:Nat×Bool) (g:LI) (hb:byt b) (hc:c.1<=b.length): ∀j,j<3-> ∃s',xG b206_0 (st206 b c g j)=some (.normal,s')/\s'.m<=10000000/\Aa 10000000 [0,2,4,5,16] s'=st206 b c g (j+1)
 |0,_=>by
  have hbl:=hb.1;obtain⟨i1,i2,_⟩:=Hi (z:=true) hb hc 0;have e:=NM b (rd3 true b c 0).1 hb (by omega);have hnx:rd3 true b c (0+1)=((rdl true b (rd3 true b c 0).1).1,(rd3 true b c 0).2++[(rdl true b (rd3 true b c 0).1).2]):=rfl;simp only[crs]at e;have hz:(rd3 true b c 0).2=[]:=rfl;rw[hz]at hnx;simp only[st206];rw[hnx];generalize (rdl true b (rd3 true b c 0).1).1=c1 at e ⊢;generalize (rdl true b (rd3 true b c 0).1).2=l at e ⊢;generalize (rd3 true b c 0).1=c0 at e ⊢;have hap:([[T.sl 1 (enc fI l)]]:List (List T))=enc fII [l]:=rfl;simp[b206_0,  e,C6]
 |j+1,hj=>by
  have hbl:=hb.1;obtain⟨i1,i2,_⟩:=Hi (z:=true) hb hc (j+1);have e:=NM b (rd3 true b c (j+1)).1 hb (by omega);have hnx:rd3 true b c ((j+1)+1)=((rdl true b (rd3 true b c (j+1)).1).1,(rd3 true b c (j+1)).2++[(rdl true b (rd3 true b c (j+1)).1).2]):=rfl;simp only[crs]at e;have hj3:((j:Int)+1)<3:=by omega
  simp only[st206];rw[hnx];generalize (rdl true b (rd3 true b c (j+1)).1).1=c1 at e ⊢;generalize (rdl true b (rd3 true b c (j+1)).1).2=l at e ⊢;generalize (rd3 true b c (j+1)).1=c0 at e ⊢;generalize (rd3 true b c (j+1)).2=ll at i2 ⊢;have hap:enc fII ll++[[T.sl 1 (enc fI l)]]=enc fII (ll++[l]):=by simp[enc]
  have hinc:IntKind.wrap .i64 ((j:Int)+1+1)=(j:Int)+1+1:=AC (by omega) (by omega);have hlen:(j+1+1)*24<=35184372088832:=by omega
  simp[b206_0,  hj3,e,hap,hinc,i2,hlen]
def by8 (l:LI):Prop:= ∀x∈l,0<=x/\x<256
theorem By {l m:LI} (h1:by8 l) (h2:by8 m):by8 (l++m):=λx hx=>(List.mem_append.1 hx).elim (h1 x) (h2 x)
theorem M6 (x:Int):0<=IntKind.wrap .u8 x/\IntKind.wrap .u8 x<256:=by rw[Fs];omega
theorem po_by (n:Int): ∀j,by8 (po n j)
 |0=>λx hx=>by cases hx
 |j+1=>By (po_by n j) λx hx=>by rw[List.mem_singleton.1 hx];exact M6 _
theorem GT (n:Int):by8 (Ae n):=By (po_by n _) λx hx=>by rw[List.mem_singleton.1 hx];exact M6 _
theorem TL (l:LI):by8 (pns l):=λx hx=>by
 unfold pns at hx;obtain⟨y,hy,hxy⟩:=List.mem_flatten.1 hx;obtain⟨n,_,rfl⟩:=List.mem_map.1 hy;exact GT n x hxy
theorem pl_by (l:LI):by8 (pl l):=By (GT _) (TL l)
theorem pls_by (l:List LI):by8 (pls l):=λx hx=>by
 unfold pls at hx;obtain⟨y,hy,hxy⟩:=List.mem_flatten.1 hx;obtain⟨n,_,rfl⟩:=List.mem_map.1 hy;exact pl_by n x hxy
theorem VJ (m:Ay):by8 (Hv m):=By (By (pl_by _) (pls_by _)) (By (GT _) (GT _))
theorem DO (m:Ay):by8 (Az m):=by
 unfold Az;split
 ·exact VJ m
 ·exact λx hx=>by cases hx
theorem TH {z:Bool} {b:LI} (hb:byt b) (hb2:b.length<=1000):mtS (rdM z b).1:=by
 obtain⟨g1,g2⟩:=NF (z:=z) (b:=b) (c:=(0,true)) (Nat.zero_le _);obtain⟨h1,h2,h3⟩:=Hi (z:=z) hb g1 3;refine⟨?_,?_,λx hx=> ?_⟩
 ·show (rdl z b (0,true)).2.length<=_
  omega
 ·show (rd3 z b (rdl z b (0,true)).1 3).2.length<=_
  omega
 ·have:=h3 x hx;omega
theorem OL [PKI] (b:LI) (hb:byt b) (hb2:b.length<=1000):sG 180 [.v (.im 1 (enc fU b))]=some ⟨[.a (AA (fM (Bh b).1)),.v (.sc (.bool (Bh b).2))],[],[]⟩:=by
 refine sK p180 ?_;have hmt:=TH (z:=false) hb hb2;have e7:=H9 (rdM false b).1 hmt;have hstr:=S2 (DO (rdM false b).1) hb.2;have hM:rdM false b=(⟨(rdl false b (0,true)).2,(rd3 false b (rdl false b (0,true)).1 3).2,fb (num false b (rd3 false b (rdl false b (0,true)).1 3).1).1 1,fb (num false b (rd3 false b (rdl false b (0,true)).1 3).1).1 2,fb (num false b (rd3 false b (rdl false b (0,true)).1 3).1).1 4,(num false b (num false b (rd3 false b (rdl false b (0,true)).1 3).1).2).1⟩,(num false b (num false b (rd3 false b (rdl false b (0,true)).1 3).1).2).2.2):=rfl;have e0:=L6 b (0,true) hb (by simp);obtain⟨g1,g2⟩:=NF (z:=false) (b:=b) (c:=(0,true)) (Nat.zero_le _);have hstep:=step99 b (rdl false b (0,true)).1 (rdl false b (0,true)).2 hb g1;obtain⟨h1,h2,h3⟩:=Hi (z:=false) hb g1 3;have e5:=DI b (rd3 false b (rdl false b (0,true)).1 3).1 hb (by omega);have h5:=FX (z:=false) (b:=b) (rd3 false b (rdl false b (0,true)).1 3).1 h1;have e6:=DI b (num false b (rd3 false b (rdl false b (0,true)).1 3).1).2 hb (by omega);have hsz:= @lok _ 10000000 [0,2,4,5,6] b180_0 (st180 b (rdl false b (0,true)).1 (rdl false b (0,true)).2) 3 hstep (by simp[b180_0]);have hz1:(rd3 false b (rdl false b (0,true)).1 0).1=(rdl false b (0,true)).1:=rfl;unfold Bh;rw[hM]at hmt e7 hstr ⊢;clear hM hstep h3 h5 hmt;simp only[crs,AD,lent,fM]at e0 e5 e6 e7;rw[show (((0:Nat):Int))=0 from rfl]at e0;simp[p180,  e0];rw[hsz]
 ·clear hsz hz1 e0;simp only[st180];generalize (rdl false b (0,true)).2=g at*;generalize (rdl false b (0,true)).1=c at*;generalize (rd3 false b c 3).2=ll at*;generalize (rd3 false b c 3).1=c3 at*;generalize (num false b c3).1=f at*;generalize (num false b c3).2=c4 at*;generalize (num false b c4).1=l at*;generalize (num false b c4).2=c5 at*;have hmbb:=DO ⟨g,ll,fb f 1,fb f 2,fb f 4,l⟩;generalize Az ⟨g,ll,fb f 1,fb f 2,fb f 4,l⟩=mb at*;unfold fb at*
  cases hok:c5.2 with
  |false=>simp[b180_0,  CV,e5,e6,hok,zM]
  |true=>
   by_cases hmb:mb=b
   ·by_cases hlen:0<b.length
    ·have hbn: ¬b=[]:=λh=>by rw[h]at hlen;simp at hlen
     have hbl0: ¬ (b.length:Int)=0:=by omega
     simp[b180_0,  CV,e5,e6,e7,hok,Bb,hstr,hmb,hlen,hbn,hbl0]
    ·have hl0:b.length=0:=by omega
     simp[b180_0,  CV,e5,e6,e7,hok,Bb,hstr,hmb,hl0,zM]
   ·have hu: ¬u8s mb=u8s b:=λh=>hmb (Gw hmbb hb.2 h)
    simp[b180_0,  CV,e5,e6,e7,hok,Bb,hmb,hu,zM]
 ·simp
 ·simp[hz1]
theorem WJ {b:LI} {c d:Nat×Bool} (h:ag c d): ∀j,(rd3 false b c j).2=(rd3 true b d j).2/\ag (rd3 false b c j).1 (rd3 true b d j).1
 |0=>⟨rfl,h⟩
 |j+1=>by
  obtain⟨h1,h2⟩:=WJ (b:=b) h j;obtain⟨g1,g2⟩:=WH (b:=b) h2;simp only[rd3];rw[h1,g1];exact⟨rfl,g2⟩
theorem rdM_ag (b:LI):rdM true b=rdM false b:=by
 obtain⟨a1,a2⟩:=WH (b:=b) (c:=(0,true)) (d:=(0,true)) ⟨rfl,λ_=>rfl⟩;obtain⟨b1,b2⟩:=WJ (b:=b) a2 3;obtain⟨c1,c2⟩:=GC (b:=b) b2;obtain⟨d1,d2⟩:=GC (b:=b) c2;unfold rdM;simp only;rw[a1,b1,c1,d1,d2.1]
theorem Ob [PKI] (b:LI) (hb:byt b) (hb2:b.length<=1000):sG 206 [.v (.im 1 (enc fU b))]=some ⟨[.a (AA (fM (Bh b).1)),.v (.sc (.bool (Bh b).2))],[],[]⟩:=by
 refine sK p206 ?_;have hmt:=TH (z:=true) hb hb2;have e7:=IH (rdM true b).1 hmt;have e8:=Ej (Az (rdM true b).1) b (DO _) hb.2;have hM:rdM true b=(⟨(rdl true b (0,true)).2,(rd3 true b (rdl true b (0,true)).1 3).2,fb (num true b (rd3 true b (rdl true b (0,true)).1 3).1).1 1,fb (num true b (rd3 true b (rdl true b (0,true)).1 3).1).1 2,fb (num true b (rd3 true b (rdl true b (0,true)).1 3).1).1 4,(num true b (num true b (rd3 true b (rdl true b (0,true)).1 3).1).2).1⟩,(num true b (num true b (rd3 true b (rdl true b (0,true)).1 3).1).2).2.2):=rfl;have e0:=NM b (0,true) hb (by simp);obtain⟨g1,g2⟩:=NF (z:=true) (b:=b) (c:=(0,true)) (Nat.zero_le _);have hstep:=step113 b (rdl true b (0,true)).1 (rdl true b (0,true)).2 hb g1;obtain⟨h1,h2,h3⟩:=Hi (z:=true) hb g1 3;have e5:=HD b (rd3 true b (rdl true b (0,true)).1 3).1 hb (by omega);have h5:=FX (z:=true) (b:=b) (rd3 true b (rdl true b (0,true)).1 3).1 h1;have e6:=HD b (num true b (rd3 true b (rdl true b (0,true)).1 3).1).2 hb (by omega);have hsz:= @lok _ 10000000 [0,2,4,5,16] b206_0 (st206 b (rdl true b (0,true)).1 (rdl true b (0,true)).2) 3 hstep (by simp[b206_0]);have hz1:(rd3 true b (rdl true b (0,true)).1 0).1=(rdl true b (0,true)).1:=rfl;unfold Bh;rw[<-rdM_ag];rw[hM]at hmt e7 e8 ⊢;clear hM hstep h3 h5 hmt;simp only[crs,AD,lent,fM]at e0 e5 e6 e7;rw[show (((0:Nat):Int))=0 from rfl]at e0;simp[p206,  e0];rw[hsz]
 ·clear hsz hz1 e0;simp only[st206];generalize (rdl true b (0,true)).2=g at*;generalize (rdl true b (0,true)).1=c at*;generalize (rd3 true b c 3).2=ll at*;generalize (rd3 true b c 3).1=c3 at*;generalize (num true b c3).1=f at*;generalize (num true b c3).2=c4 at*;generalize (num true b c4).1=l at*;generalize (num true b c4).2=c5 at*;generalize Az ⟨g,ll,fb f 1,fb f 2,fb f 4,l⟩=mb at*;unfold fb at*
  cases hok:c5.2 with
  |false=>simp[b206_0,  CV,e5,e6,e7,hok,zM]
  |true=>
   by_cases hmb:mb=b
   ·rw[hmb]at e7 e8;by_cases hlen:0<b.length
    ·have hbn: ¬b=[]:=λh=>by rw[h]at hlen;simp at hlen
     have hbl0: ¬ (b.length:Int)=0:=by omega
     simp[b206_0,  CV,e5,e6,e7,e8,hok,hmb,hlen,hbn,hbl0]
    ·have hl0:b.length=0:=by omega
     simp[b206_0,  CV,e5,e6,e7,e8,hok,hmb,hl0,zM]
   ·have hd:decide (mb=b)=false:=decide_eq_false hmb;rw[hd]at e8;by_cases hl0:mb.length=0
    ·simp[b206_0,  CV,e5,e6,e7,e8,hok,hmb,hl0,zM]
    ·have hbn: ¬mb=[]:=λh=>by rw[h]at hl0;simp at hl0
     simp[b206_0,  CV,e5,e6,e7,e8,hok,hmb,hbn,zM]
 ·simp
 ·simp[hz1]
def slN (b:LI):Int:=b.getD 0 0+b.getD 1 0*256+b.getD 2 0*65536+b.getD 3 0*16777216
def slB (b:LI):LI:=(b.take (5+b.getD 4 0).toNat).drop 5
def Au (b:LI):Ay×Int×Bool:=
 if b.length=160/\inB (slN b) 1 1000000=true/\b.getD 4 0<=151/\(Bh (slB b)).2=true/\Em (Az (Bh (slB b)).1) (slN b)=b then((Bh (slB b)).1,slN b,true)else(zM,0,false)
theorem QZ {b:LI} (hb:byt b) (h:b.length=160):byt (slB b)/\(slB b).length<=155:=
 ⟨⟨by unfold slB;rw[List.length_drop,List.length_take];omega,λx hx=>hb.2 x (List.mem_of_mem_take (List.mem_of_mem_drop hx))⟩,by unfold slB;rw[List.length_drop,List.length_take];omega⟩
theorem Ln {b:LI} (hb:byt b) (hb2:b.length<=1000):mtS (Bh b).1:=by
 unfold Bh;split
 ·exact TH hb hb2
 ·exact⟨by simp[zM],by simp[zM],λx hx=>by cases hx⟩
theorem Kg {b:LI} (h:(Bh b).2=true):Az (Bh b).1=b:=by
 unfold Bh at h ⊢;split at h
 ·rename_i hc;rw[if_pos hc];simp only[Bool.and_eq_true,decide_eq_true_eq]at hc;exact hc.1.2
 ·cases h
theorem Na {x:LI} (hx:by8 x) (n:Int):by8 (Em x n):=by
 unfold Em Cz;refine By (By (By (By (Uh n) λy hy=> ?_) hx) λy hy=> ?_) (Uh n)
 ·rw[List.mem_singleton.1 hy];omega
 ·rw[(List.mem_replicate.1 hy).2];omega
theorem EO [PKI] (b:LI) (hb:byt b):sG 129 [.v (.im 1 (enc fU b))]=some ⟨[.a (AA (fM (Au b).1)),.v (.sc (I6 (Au b).2.1)),.v (.sc (.bool (Au b).2.2))],[],[]⟩:=by
 refine sK p129 ?_;by_cases hl:b.length=160
 ·obtain⟨x0,i0,hx0,hy0,hd0⟩:=AK b (j:=0) (by omega);obtain⟨x1,i1,hx1,hy1,hd1⟩:=AK b (j:=1) (by omega);obtain⟨x2,i2,hx2,hy2,hd2⟩:=AK b (j:=2) (by omega);obtain⟨x3,i3,hx3,hy3,hd3⟩:=AK b (j:=3) (by omega);obtain⟨x4,i4,hx4,hy4,hd4⟩:=AK b (j:=4) (by omega);have r0:=hb.2 x0 (List.mem_of_getElem? hx0);have r1:=hb.2 x1 (List.mem_of_getElem? hx1);have r2:=hb.2 x2 (List.mem_of_getElem? hx2);have r3:=hb.2 x3 (List.mem_of_getElem? hx3);have r4:=hb.2 x4 (List.mem_of_getElem? hx4);have b1:min 8 IntKind.i64.bits=8:=rfl;have b2:min 16 IntKind.i64.bits=16:=rfl;have b3:min 24 IntKind.i64.bits=24:=rfl;have c0:IntKind.wrap .i64 x0=x0:=AC (by omega) (by omega);have c1:IntKind.wrap .i64 x1=x1:=AC (by omega) (by omega);have c2:IntKind.wrap .i64 x2=x2:=AC (by omega) (by omega);have c3:IntKind.wrap .i64 x3=x3:=AC (by omega) (by omega);have c4:IntKind.wrap .i64 x4=x4:=AC (by omega) (by omega);have s1:IntKind.wrap .i64 (x1*256)=x1*256:=AC (by omega) (by omega);have s2:IntKind.wrap .i64 (x2*65536)=x2*65536:=AC (by omega) (by omega);have s3:IntKind.wrap .i64 (x3*16777216)=x3*16777216:=AC (by omega) (by omega);have t1:IntKind.wrap .i64 (x0+x1*256)=x0+x1*256:=AC (by omega) (by omega);have t2:IntKind.wrap .i64 (x0+x1*256+x2*65536)=x0+x1*256+x2*65536:=AC (by omega) (by omega);have t3:IntKind.wrap .i64 (x0+x1*256+x2*65536+x3*16777216)=slN b:=by rw[AC (by omega) (by omega)];unfold slN;rw[hd0,hd1,hd2,hd3]
  have e0:=Ao (slN b) 1 1000000;have hl2:(b.length:Int)=160:=by omega
  by_cases hin:inB (slN b) 1 1000000=true
  ·rw[hin]at e0;by_cases h4:x4<=151
   ·have hn4: ¬ 151<x4:=by omega
    have w5:IntKind.wrap .i64 (5+x4)=5+x4:=AC (by omega) (by omega);obtain⟨q1,q2⟩:=QZ hb hl;have e1:=OL (slB b) q1 (by omega);have hmm:=Ln q1 (by omega);have hwin:List.drop 5 (List.take (5+x4).toNat (enc fU b))=enc fU (slB b):=by unfold slB;rw[hd4,Ax,CA]
    have g0:0<=5+x4:=by omega
    have g1:5<=(5+x4).toNat:=by omega
    have g2:(5+x4).toNat<=160:=by omega
    simp only[AA,AJ,fM]at e1
    cases hok:(Bh (slB b)).2 with
    |false=>
     have hr:Au b=(zM,0,false):=by unfold Au;rw[if_neg (λh=>by rw[hok]at h;cases h.2.2.2.1)]
     rw[hr];rw[hok]at e1;simp[p129,  hl,hy0,hy1,hy2,hy3,hy4,b1,b2,b3,c0,c1,c2,c3,c4,s1,s2,s3,t1,t2,t3,e0,hn4,w5,hwin,g0,g1,g2,e1,zM]
    |true=>
     have hmb:=Kg hok;have hsl:(slB b).length<=151:=by unfold slB;rw[hd4,List.length_drop,List.length_take];omega
     have e2:=QH (Bh (slB b)).1 (slN b) hmm (by rw[hmb];exact hsl);have hby:=Na (DO (Bh (slB b)).1) (slN b);simp only[AD,lent,fM]at e2;rw[hok]at e1;by_cases heq:Em (Az (Bh (slB b)).1) (slN b)=b
     ·have hr:Au b=((Bh (slB b)).1,slN b,true):=by unfold Au;rw[if_pos ⟨hl,hin,by rw[hd4];exact h4,hok,heq⟩]
      rw[hr];rw[heq]at e2;simp[p129,  hl,hy0,hy1,hy2,hy3,hy4,b1,b2,b3,c0,c1,c2,c3,c4,s1,s2,s3,t1,t2,t3,e0,hn4,w5,hwin,g0,g1,g2,e1,e2,Bb]
     ·have hr:Au b=(zM,0,false):=by unfold Au;rw[if_neg (λh=>heq h.2.2.2.2)]
      rw[hr];have hu: ¬u8s (Em (Az (Bh (slB b)).1) (slN b))=u8s b:=λh=>heq (Gw hby hb.2 h)
      simp[p129,  hl,hy0,hy1,hy2,hy3,hy4,b1,b2,b3,c0,c1,c2,c3,c4,s1,s2,s3,t1,t2,t3,e0,hn4,w5,hwin,g0,g1,g2,e1,e2,Bb,hu,zM]
   ·have hr:Au b=(zM,0,false):=by unfold Au;rw[if_neg (λh=>h4 (by rw[<-hd4];exact h.2.2.1))]
    rw[hr];have hn4:151<x4:=by omega
    simp[p129,  hl,hy0,hy1,hy2,hy3,hy4,b1,b2,b3,c0,c1,c2,c3,c4,s1,s2,s3,t1,t2,t3,e0,hn4,zM]
  ·have hr:Au b=(zM,0,false):=by unfold Au;rw[if_neg (λh=>hin h.2.1)]
   rw[hr];have hin':inB (slN b) 1 1000000=false:=by simpa using hin
   rw[hin']at e0;simp[p129,  hl,hy0,hy1,hy2,hy3,hy4,b1,b2,b3,c0,c1,c2,c3,c4,s1,s2,s3,t1,t2,t3,e0,zM]
 ·have hr:Au b=(zM,0,false):=by unfold Au;rw[if_neg (λh=>hl h.1)]
  rw[hr];have hl2: ¬ (b.length:Int)=160:=by omega
  simp[p129,  hl2,zM]
theorem WT {A B:Int} (i:Nat) (h0:0<=A) (h1:A<2 ^ i) (h2:0<=B) (h3:B%2 ^ i=0) (h4:B<9223372036854775808/\A<9223372036854775808):bits .or .i64 A B=A+B:=
 bits_join_low .i64 63 (by decide) (λn hn hn'=>AC (by omega) (by omega)) i A B h0 h1 (by omega) h2 h3 (by omega)
theorem IF [PKI] (b:LI) (hb:byt b):sG 167 [.v (.im 1 (enc fU b))]=some ⟨[.a (AA (fM (Au b).1)),.v (.sc (I6 (Au b).2.1)),.v (.sc (.bool (Au b).2.2))],[],[]⟩:=by
 refine sK p167 ?_;by_cases hl:b.length=160
 ·obtain⟨x0,i0,hx0,hy0,hd0⟩:=AK b (j:=0) (by omega);obtain⟨x1,i1,hx1,hy1,hd1⟩:=AK b (j:=1) (by omega);obtain⟨x2,i2,hx2,hy2,hd2⟩:=AK b (j:=2) (by omega);obtain⟨x3,i3,hx3,hy3,hd3⟩:=AK b (j:=3) (by omega);obtain⟨x4,i4,hx4,hy4,hd4⟩:=AK b (j:=4) (by omega);have r0:=hb.2 x0 (List.mem_of_getElem? hx0);have r1:=hb.2 x1 (List.mem_of_getElem? hx1);have r2:=hb.2 x2 (List.mem_of_getElem? hx2);have r3:=hb.2 x3 (List.mem_of_getElem? hx3);have r4:=hb.2 x4 (List.mem_of_getElem? hx4);have b1:min 8 IntKind.i64.bits=8:=rfl;have b2:min 16 IntKind.i64.bits=16:=rfl;have b3:min 24 IntKind.i64.bits=24:=rfl;have c0:IntKind.wrap .i64 x0=x0:=AC (by omega) (by omega);have c1:IntKind.wrap .i64 x1=x1:=AC (by omega) (by omega);have c2:IntKind.wrap .i64 x2=x2:=AC (by omega) (by omega);have c3:IntKind.wrap .i64 x3=x3:=AC (by omega) (by omega);have c4:IntKind.wrap .i64 x4=x4:=AC (by omega) (by omega);have s1:IntKind.wrap .i64 (x1*256)=x1*256:=AC (by omega) (by omega);have s2:IntKind.wrap .i64 (x2*65536)=x2*65536:=AC (by omega) (by omega);have s3:IntKind.wrap .i64 (x3*16777216)=x3*16777216:=AC (by omega) (by omega);have t1:bits .or .i64 x0 (x1*256)=x0+x1*256:=WT 8 (by omega) (by omega) (by omega) (by omega) (by omega);have t2:bits .or .i64 (x0+x1*256) (x2*65536)=x0+x1*256+x2*65536:=WT 16 (by omega) (by omega) (by omega) (by omega) (by omega);have t3:bits .or .i64 (x0+x1*256+x2*65536) (x3*16777216)=slN b:=by rw[WT 24 (by omega) (by omega) (by omega) (by omega) (by omega)];unfold slN;rw[hd0,hd1,hd2,hd3]
  have e0:=BF (slN b) 1 1000000;have hl2:(b.length:Int)=160:=by omega
  by_cases hin:inB (slN b) 1 1000000=true
  ·rw[hin]at e0;by_cases h4:x4<=151
   ·have hn4: ¬ 151<x4:=by omega
    have w5:IntKind.wrap .i64 (5+x4)=5+x4:=AC (by omega) (by omega);obtain⟨q1,q2⟩:=QZ hb hl;have e1:=Ob (slB b) q1 (by omega);have hmm:=Ln q1 (by omega);have hwin:List.drop 5 (List.take (5+x4).toNat (enc fU b))=enc fU (slB b):=by unfold slB;rw[hd4,Ax,CA]
    have g0:0<=5+x4:=by omega
    have g1:5<=(5+x4).toNat:=by omega
    have g2:(5+x4).toNat<=160:=by omega
    simp only[AA,AJ,fM]at e1
    cases hok:(Bh (slB b)).2 with
    |false=>
     have hr:Au b=(zM,0,false):=by unfold Au;rw[if_neg (λh=>by rw[hok]at h;cases h.2.2.2.1)]
     rw[hr];rw[hok]at e1;simp[p167,  hl,hy0,hy1,hy2,hy3,hy4,b1,b2,b3,c0,c1,c2,c3,c4,s1,s2,s3,t1,t2,t3,e0,hn4,w5,hwin,g0,g1,g2,e1,zM]
    |true=>
     have hmb:=Kg hok;have hsl:(slB b).length<=151:=by unfold slB;rw[hd4,List.length_drop,List.length_take];omega
     have e2:=Kx (Bh (slB b)).1 (slN b) hmm (by rw[hmb];exact hsl);have hby:=Na (DO (Bh (slB b)).1) (slN b);have e3:=Ej (Em (Az (Bh (slB b)).1) (slN b)) b hby hb.2;simp only[AD,lent,fM]at e2;rw[hok]at e1;by_cases heq:Em (Az (Bh (slB b)).1) (slN b)=b
     ·have hr:Au b=((Bh (slB b)).1,slN b,true):=by unfold Au;rw[if_pos ⟨hl,hin,by rw[hd4];exact h4,hok,heq⟩]
      rw[hr];rw[heq]at e2 e3;simp[p167,  hl,hy0,hy1,hy2,hy3,hy4,b1,b2,b3,c0,c1,c2,c3,c4,s1,s2,s3,t1,t2,t3,e0,hn4,w5,hwin,g0,g1,g2,e1,e2,e3]
     ·have hr:Au b=(zM,0,false):=by unfold Au;rw[if_neg (λh=>heq h.2.2.2.2)]
      rw[hr];have hu: ¬u8s (Em (Az (Bh (slB b)).1) (slN b))=u8s b:=λh=>heq (Gw hby hb.2 h)
      simp[p167,  hl,hy0,hy1,hy2,hy3,hy4,b1,b2,b3,c0,c1,c2,c3,c4,s1,s2,s3,t1,t2,t3,e0,hn4,w5,hwin,g0,g1,g2,e1,e2,e3,heq,zM]
   ·have hr:Au b=(zM,0,false):=by unfold Au;rw[if_neg (λh=>h4 (by rw[<-hd4];exact h.2.2.1))]
    rw[hr];have hn4:151<x4:=by omega
    simp[p167,  hl,hy0,hy1,hy2,hy3,hy4,b1,b2,b3,c0,c1,c2,c3,c4,s1,s2,s3,t1,t2,t3,e0,hn4,zM]
  ·have hr:Au b=(zM,0,false):=by unfold Au;rw[if_neg (λh=>hin h.2.1)]
   rw[hr];have hin':inB (slN b) 1 1000000=false:=by simpa using hin
   rw[hin']at e0;simp[p167,  hl,hy0,hy1,hy2,hy3,hy4,b1,b2,b3,c0,c1,c2,c3,c4,s1,s2,s3,t1,t2,t3,e0,zM]
 ·have hr:Au b=(zM,0,false):=by unfold Au;rw[if_neg (λh=>hl h.1)]
  rw[hr];have hl2: ¬ (b.length:Int)=160:=by omega
  simp[p167,  hl2,zM]
def slS (s:BG):Prop:=byt s.a/\byt s.b
def Nn (s:BG):Bool:=(Au s.b).2.2&&(!(Au s.a).2.2||decide ((Au s.a).2.1<(Au s.b).2.1))
def Af (s:BG):Ay×Int×Bool:=if Nn s then Au s.b else Au s.a
def I5 (s:BG):Int:=if Nn s then 1 else if(Au s.a).2.2 then 0 else -1
theorem U3 (b:LI):(Au b).2.2=decide (0<(Au b).2.1):=by
 unfold Au;split
 ·rename_i h;have:=AP.1 h.2.1;symm;exact decide_eq_true (by show 0<slN b;omega)
 ·rfl
theorem J7 [PKI] (s:BG) (hs:slS s):sG 128 [.a (AD (fSl s))]=some ⟨[.v (.sc (I6 (I5 s)))],[],[]⟩:=by
 refine sK p128 ?_;have e1:=EO s.a hs.1;have e2:=EO s.b hs.2;simp only[AA,AJ,fM]at e1 e2;unfold I5 Nn;generalize Au s.a=A at e1 ⊢;generalize Au s.b=B at e2 ⊢;obtain⟨ma,na,oa⟩:=A;obtain⟨mb,nb,ob⟩:=B
 cases oa<;>cases ob
 ·simp[p128,  e1,e2]
 ·simp[p128,  e1,e2]
 ·simp[p128,  e1,e2]
 ·by_cases h:na<nb
  ·have h': ¬nb<=na:=by omega
   simp[p128,  e1,e2,h,h']
  ·have h':nb<=na:=by omega
   simp[p128,  e1,e2,h,h']
theorem Dr [PKI] (s:BG) (hs:slS s):sG 82 [.a (AD (fSl s))]=some ⟨[.a (AA (fM (Af s).1)),.v (.sc (I6 (Af s).2.1)),.v (.sc (.bool (Af s).2.2))],[],[]⟩:=by
 refine sK p82 ?_;have e0:=J7 s hs;have e1:=EO s.a hs.1;have e2:=EO s.b hs.2;simp only[AA,AJ,fM,AD,lent,fSl]at e0 e1 e2;unfold Af
 cases hp:Nn s with
 |true=>
  have hw:I5 s=1:=by unfold I5;rw[hp];rfl
  rw[hw]at e0;simp[p82,  e0,e2]
 |false=>
  have hw: ¬I5 s=1:=by
   unfold I5;rw[hp]
   cases (Au s.a).2.2<;>simp
  simp[p82,  e0,hw,e1]
def isA (s:BG):Bool:=if Nn s then false else(Au s.a).2.2
theorem L3 [PKI] (s:BG) (hs:slS s):sG 111 [.a (AD (fSl s))]=some ⟨[.a (AA (fM (Af s).1)),.v (.sc (I6 (Af s).2.1)),.v (.sc (.bool (isA s)))],[],[]⟩:=by
 refine sK p111 ?_;have e1:=IF s.a hs.1;have e2:=IF s.b hs.2;simp only[AA,AJ,fM]at e1 e2;unfold isA Af Nn;generalize Au s.a=A at e1 ⊢;generalize Au s.b=B at e2 ⊢;obtain⟨ma,na,oa⟩:=A;obtain⟨mb,nb,ob⟩:=B
 cases oa<;>cases ob
 ·simp[p111,  e1,e2]
 ·simp[p111,  e1,e2]
 ·simp[p111,  e1,e2]
 ·by_cases h:na<nb
  ·simp[p111,  e1,e2,h]
  ·simp[p111,  e1,e2,h]
theorem S6 (s:BG):(Af s).2.2=decide ((Af s).2.1>0):=by
 unfold Af;split<;>exact U3 _
theorem HX [PKI] (s:BG) (hs:slS s):sG 75 [.a (AD (fSl s))]=some ⟨[.a (AA (fM (Af s).1)),.v (.sc (I6 (Af s).2.1)),.v (.sc (.bool (Af s).2.2))],[],[]⟩:=by
 refine sK p75 ?_;have e1:=L3 s hs;simp only[AA,AJ,fM,AD,lent,fSl]at e1;rw[S6];simp[p75,  e1]
end Go.Proofs.YtghgecpicnfgpaaGreat.Ow
