/- Functions evaluated on the small machine: A deed: what the reference makes of a world, New nodes, New nodes: DD, A new world, The cursor of the draws: evaluated; what is drawn is told by its bounds alone, What is drawn: images, marks, generations, messages; told by their bounds alone. -/
import Derived.Test.YtbolhfegdocpeaaGreatEv25
import Derived.Test.YtbolhfegdocpeaaGreatEv10
import Derived.Test.YtbolhfegdocpeaaGreatEv3
import Derived.Test.YtbolhfegdocpeaaGreatEv0
namespace Go.Proofs.YtbolhfegdocpeaaGreat.Ow
open Go
set_option linter.unusedVariables false
set_option linter.unusedSimpArgs false
set_option maxHeartbeats 8000000
variable {PK:Nat->List Arg->Option Res}
def zWo:AB:=⟨[],[],[],[],0⟩
def doW (w:AB) (d:D5):AB×Int:=
 if !BV w|| !inB d.kind 1 12 then(zWo,1)
 else if(LY w d).2=0 then(if BV (LY w d).1 then((LY w d).1,0)else(w,4))else(w,(LY w d).2)
theorem Qx (w:AB) (d:D5) (hw:wS w):AH G PK md 149 [.a (AJ (fWo w)),.a (AJ (fD d))]=some ⟨[.a (AD (fWo (doW w d).1)),.v (.sc (.int .i64 (doW w d).2))],[],[]⟩:=by
 refine AA (pf:=p149) rfl (by simp[p149]) ?_;have e1:=GC (PK:=PK) w hw;have e2:=Aj (PK:=PK) d.kind 1 12;unfold doW;simp only[AJ,lent,fWo]at e1
 cases hok:BV w
 ·rw[hok]at e1;simp[p149,md,e1,zWo]
 rw[hok]at e1
 cases hk:inB d.kind 1 12
 ·rw[hk]at e2;simp[p149,md,e1,e2,zWo]
 rw[hk]at e2;have hkb:=Ab.1 hk;have hWI:=BT hok hw;have e3:=Q6 (PK:=PK) w hw (by have:=hWI.n3;omega);obtain⟨fin,hfin,e4⟩:=Su (PK:=PK) w d (by omega) hok hw;have hS:=(Rc (d:=d) hok hw).S;have e5:=GC (PK:=PK) (LY w d).1 hS;simp only[AJ,lent,AD,AX,fWo,fD]at e3 e4 e5;generalize LY w d=r at*;obtain⟨v,c⟩:=r;obtain⟨A,B,rfl⟩:=hfin;simp only at e4 e5 ⊢;by_cases hc:c=0
 ·subst hc
  cases hv:BV v
  ·rw[hv]at e5
   cases A<;>cases B<;>simp[p149,md,e1,e2,e3,e4,e5,AF]
  ·rw[hv]at e5
   cases A<;>cases B<;>simp[p149,md,e1,e2,e3,e4,e5,AF]
 ·cases A<;>cases B<;>simp[p149,md,e1,e2,e3,e4,hc,AF]
def Iy:Av:=⟨[1],[[],[],[]],true,false,false,0⟩
theorem Qq:mtS Iy:=by
 refine⟨by decide,by decide,?_⟩;intro l hl;simp[Iy]at hl;subst hl;exact Nat.zero_le _
theorem newM_ok:BP Iy=true:=by decide
theorem GD:AH G PK md 175 [.v (.sc (.int .i64 1))]=some ⟨[.a (AD (fM Iy))],[],[]⟩:=by
 refine AA (pf:=p175) rfl (by simp[p175]) ?_;have e:=Ce (PK:=PK) Iy Qq;rw[newM_ok]at e;simp only[AJ,lent,fM,Iy,List.map,enc,fII,fI]at e;simp[p175,md,Iy,enc,fII,List.replicate,e]
def Ix (i:Nat):AG:=⟨i,true,false,List.replicate 8 0,Iy,B4 ⟨[],[]⟩ Iy,[false,false,false],[[],[],[]],[false,false,false],[]⟩
theorem ev_isNodeN (x:Int):AH G PK md 64 [.v (.sc (.int .i64 x))]=some ⟨[.v (.sc (.bool (inB x 0 2)))],[],[]⟩:=by
 refine AA (pf:=p64) rfl (by simp[p64]) ?_;have e:=CJ (PK:=PK) x 0 2;simp[p64,md,e]
theorem sl0_S:slS ⟨[],[]⟩:=⟨⟨by decide,by intro x h;cases h⟩,⟨by decide,by intro x h;cases h⟩⟩
theorem EB (i:Nat) (hi:i<3):AH G PK md 176 [.v (.sc (.int .i64 i))]=some ⟨[.a (AD (fN (Ix i)))],[],[]⟩:=by
 refine AA (pf:=p176) rfl (by simp[p176]) ?_;have e1:=Aj (PK:=PK) i 0 2;have e2:=GD (PK:=PK);have e3:=FU (PK:=PK);have e4:=CL (PK:=PK) ⟨[],[]⟩ Iy sl0_S Qq;have hr:inB (i:Int) 0 2=true:=Ab.2 ⟨by omega,by omega⟩;rw[hr]at e1;have h8:enc fI (List.replicate 8 0)=List.replicate 8 [T.sc (.int .i64 0)]:=rfl;have hn:enc fU ([]:List Int)=[]:=rfl;simp only[AJ,lent,fM,fSl,List.map,hn]at e2 e4;unfold Ix;generalize B4 ⟨[],[]⟩ Iy=sp at*;generalize Iy=m at*;generalize enc fI (List.replicate 8 0)=img at*;simp (config:={maxSteps:=10000000}) [p176,md,e1,e2,e3,e4,AF];exact h8
def Lc:AB:=⟨[Ix 0,Ix 1,Ix 2],[],[],[],2⟩
@[simp] def st32_0:Nat->St
 |0=>{n:=16,m:=0,tm:=[(0,.pb 10000000 0),(1,.pb 10000001 0),(2,.sc (.int .i64 0))],ob:=[(10000000,.box [.nil 16,.nil 3,.nil 2,.nil 1,.sc (.int .i64 0)]),(10000001,.box [.nil 16,.nil 3,.nil 2,.nil 1,.sc (.int .i64 2)])]}
 |j+1=>{n:=16,m:=0,tm:=[(0,.pb 10000000 0),(1,.pb 10000001 0),(2,.sc (.int .i64 ((j:Int)+1)))],ob:=[(10000000,.box [.nil 16,.nil 3,.nil 2,.nil 1,.sc (.int .i64 0)]),(10000001,.box [.ref 10000002 [],.nil 3,.nil 2,.nil 1,.sc (.int .i64 2)]),(10000002,.arr 16 ((List.range (j+1)).map fun i=>fN (Ix i)))]}
theorem Jj:AH G PK md 148 []=some ⟨[.a (AD (fWo Lc))],[],[]⟩:=by
 refine AA (pf:=p148) rfl (by simp[p148]) ?_;have e0:=EB (PK:=PK) 0 (by omega);have e1:=EB (PK:=PK) 1 (by omega);have e2:=EB (PK:=PK) 2 (by omega);unfold Lc;rw[show ((0:Nat):Int)=0 from rfl]at e0;rw[show ((1:Nat):Int)=1 from rfl]at e1;rw[show ((2:Nat):Int)=2 from rfl]at e2;have hs0:=AL (G:=G) (PK:=PK) (md:=md) (o:=10000000) (live:=[0,1,2]) (c:=b148_0) st32_0 3 (fun j hj=>by
  rcases j with _|_|_|j
  ·simp[b148_0,md,e0]
   all_goals rfl
  ·simp[b148_0,md,e1]
   all_goals (first|exact⟨rfl,rfl⟩|rfl)
  ·simp[b148_0,md,e2]
   all_goals (first|exact⟨rfl,rfl⟩|rfl)
  ·omega) (by simp[b148_0])
 simp[p148,md];rw[hs0]
 ·simp[b148_0]
  all_goals rfl
 ·simp
 ·simp
@[simp] def st33_0:Nat->St
 |0=>{n:=16,m:=0,tm:=[(0,.pb 10000000 0),(1,.pb 10000001 0),(4,.sc (.int .i64 0))],ob:=[(10000000,.box [.nil 16,.nil 3,.nil 2,.nil 1,.sc (.int .i64 0)]),(10000001,.box [.nil 16,.nil 3,.nil 2,.nil 1,.sc (.int .i64 2)])]}
 |j+1=>{n:=16,m:=0,tm:=[(0,.pb 10000000 0),(1,.pb 10000001 0),(4,.sc (.int .i64 ((j:Int)+1)))],ob:=[(10000000,.box [.nil 16,.nil 3,.nil 2,.nil 1,.sc (.int .i64 0)]),(10000001,.box [.ref 10000002 [],.nil 3,.nil 2,.nil 1,.sc (.int .i64 2)]),(10000002,.arr 16 ((List.range (j+1)).map fun i=>fN (Ix i)))]}
@[simp] def cur (b:List Int) (c:Nat×Int):List L:=[.im 1 (enc fU b),.sc (.int .i64 c.1),.sc (.int .i64 c.2)]
theorem HU (b:List Int) (c:Nat×Int) (hb:byt b) (hc:c.1<=b.length): ∃x c',0<=x/\x<256/\c'.1<=b.length/\AH G PK md 102 [.pm (cur b c)]=some ⟨[.v (.sc (.int .i64 x))],[],[cur b c']⟩:=by
 obtain⟨i,h⟩:=c;obtain⟨h2,hh⟩: ∃h2,h2=IntKind.wrap .i64 (IntKind.wrap .i64 (h*6364136223846793005)+1442695040888963407):=⟨_,rfl⟩;have b1:min 33 IntKind.i64.bits=33:=rfl;have b2:min 45 IntKind.i64.bits=45:=rfl;obtain⟨q,hq⟩: ∃q,q=bits .xor .i64 (h2.fdiv 8589934592) (h2.fdiv 35184372088832):=⟨_,rfl⟩;have hbb:=hb.1;by_cases hi:i<b.length
 ·have hx:=hb.2 b[i] (List.getElem_mem hi);have hwb:IntKind.wrap .i64 b[i]=b[i]:=AC (by omega) (by omega);refine⟨(q%256+b[i])%256,(i+1,h2),by omega,by omega,by show i+1<=b.length;omega,AA (pf:=p102) rfl (by simp[p102]) ?_⟩;have hw:IntKind.wrap .i64 (q%256+b[i])=q%256+b[i]:=AC (by omega) (by omega);have hinc:=A2 hi hbb;simp[p102,md,hi,←hh,b1,b2,RI,←hq,hwb,hw,hinc]
 ·refine⟨q%256,(i,h2),by omega,by omega,hc,AA (pf:=p102) rfl (by simp[p102]) ?_⟩;simp[p102,md,hi,←hh,b1,b2,RI,←hq]
theorem AP (b:List Int) (c:Nat×Int) (n:Int) (hb:byt b) (hc:c.1<=b.length) (hN:n<=1152921504606846976): ∃x c',(0<n->0<=x/\x<n)/\(n<=0->x=0)/\c'.1<=b.length/\AH G PK md 68 [.pm (cur b c),.v (.sc (.int .i64 n))]=some ⟨[.v (.sc (.int .i64 x))],[],[cur b c']⟩:=by
 by_cases h0:n<=0
 ·refine⟨0,c,fun h=>by omega,fun _=>rfl,hc,AA (pf:=p68) rfl (by simp[p68]) ?_⟩;simp[p68,md,h0]
 obtain⟨x,c1,x0,x1,h1,e1⟩:=HU (PK:=PK) b c hb hc;have e1':=e1;simp only[cur]at e1';have hn:0<n:=by omega
 have hnn:n≠0:=by omega
 by_cases h2:n<=256
 ·refine⟨x.tmod n,c1,fun _=>⟨Int.tmod_nonneg _ x0,Int.tmod_lt_of_pos _ hn⟩,fun h=>by omega,h1,AA (pf:=p68) rfl (by simp[p68]) ?_⟩;have hr0:0<=x.tmod n:=Int.tmod_nonneg _ x0;have hr1:x.tmod n<n:=Int.tmod_lt_of_pos _ hn;have hw:IntKind.wrap .i64 (x.tmod n)=x.tmod n:=AC (by omega) (by omega);simp[p68,md,h0,h2,e1',hnn,hw]
 obtain⟨y,c2,y0,y1,g2,e2⟩:=HU (PK:=PK) b c1 hb h1;obtain⟨z,c3,z0,z1,g3,e3⟩:=HU (PK:=PK) b c2 hb g2;obtain⟨w,c4,w0,w1,g4,e4⟩:=HU (PK:=PK) b c3 hb g3;simp only[cur]at e1 e2 e3 e4;obtain⟨v,hv⟩: ∃v,v=x*16777216+y*65536+z*256+w:=⟨_,rfl⟩;have v0:0<=v:=by omega
 have v1:v<4294967296:=by omega
 have w5:IntKind.wrap .i64 (x*16777216)=x*16777216:=AC (by omega) (by omega);have w6:IntKind.wrap .i64 (y*65536)=y*65536:=AC (by omega) (by omega);have w7:IntKind.wrap .i64 (z*256)=z*256:=AC (by omega) (by omega);have w8:IntKind.wrap .i64 (x*16777216+y*65536)=x*16777216+y*65536:=AC (by omega) (by omega);have w9:IntKind.wrap .i64 (x*16777216+y*65536+z*256)=x*16777216+y*65536+z*256:=AC (by omega) (by omega);have w10:IntKind.wrap .i64 (x*16777216+y*65536+z*256+w)=v:=by rw[hv];exact AC (by omega) (by omega)
 have hr0:0<=v.tmod n:=Int.tmod_nonneg _ v0;have hr1:v.tmod n<n:=Int.tmod_lt_of_pos _ hn;have hw:IntKind.wrap .i64 (v.tmod n)=v.tmod n:=AC (by omega) (by omega);refine⟨v.tmod n,c4,fun _=>⟨hr0,Int.tmod_lt_of_pos _ hn⟩,fun h=>by omega,g4,AA (pf:=p68) rfl (by simp[p68]) ?_⟩;simp[p68,md,h0,h2,e1,e2,e3,e4,hnn,w5,w6,w7,w8,w9,w10,hw]
theorem DB (b:List Int) (c:Nat×Int) (n:Int) (hb:byt b) (hc:c.1<=b.length) (hN:n<=1152921504606846976): ∃r c',c'.1<=b.length/\AH G PK md 67 [.pm (cur b c),.v (.sc (.int .i64 n))]=some ⟨[.v (.sc (.bool r))],[],[cur b c']⟩:=by
 obtain⟨x,c1,_,_,h1,e1⟩:=AP (PK:=PK) b c n hb hc hN;simp only[cur]at e1;refine⟨x==0,c1,h1,AA (pf:=p67) rfl (by simp[p67]) ?_⟩;simp[p67,md,e1]
theorem Bj (b:List Int) (c:Nat×Int) (l:List Int) (hb:byt b) (hc:c.1<=b.length) (hl:l≠[]) (hs:l.length<=1048576): ∃x c',x∈l/\c'.1<=b.length/\AH G PK md 75 [.pm (cur b c),.v (.own 1 (enc fI l))]=some ⟨[.v (.sc (.int .i64 x))],[some (enc fI l)],[cur b c']⟩:=by
 obtain⟨x,c1,g1,_,h1,e1⟩:=AP (PK:=PK) b c l.length hb hc (by omega);have hp:0<l.length:=List.length_pos_iff.2 hl;have g:=g1 (by omega);obtain⟨j,rfl⟩: ∃j:Nat,x=j:=⟨x.toNat,by omega⟩;have hj:j<l.length:=by omega
 simp only[cur]at e1;refine⟨l[j],c1,List.getElem_mem hj,h1,AA (pf:=p75) rfl (by simp[p75]) ?_⟩;simp[p75,md,e1,hj]
@[simp] def M3 (b:List Int) (c:Nat×Int):Obj:= .box [.im 1 (enc fU b),.sc (.int .i64 c.1),.sc (.int .i64 c.2)]
@[simp] def st57 (b:List Int) (a:Nat×Int):St:={n:=32,m:=0,tm:=[(0,.im 1 (enc fU b)),(3,.sc (.int .i64 a.2)),(4,.sc (.int .i64 a.1))],ob:=[]}
theorem ev_l1New (b:List Int) (hb:byt b): ∃c,c.1<=b.length/\AH G PK md 57 [.v (.im 1 (enc fU b))]=some ⟨[.p (cur b c)],[],[]⟩:=by
 have hbb:=hb.1;obtain⟨h0,hh0⟩: ∃h0,h0=IntKind.wrap .i64 (24770+(b.length:Int)):=⟨_,rfl⟩;obtain⟨r,⟨a,_,hr⟩,hlp⟩:=DN (G:=G) (PK:=PK) (md:=md) (o:=10000000) (live:=[0,3,4]) (c:=b57_0) (st57 b) (fun a=>b.length - a.1) (fun a=>a.1<=b.length) (fun r=> ∃a x,r=(.exit 0,{st57 b a with tm:=(st57 b a).tm++[(15,.sc (.bool x))]})) (fun a ha=>by
  obtain⟨i,h⟩:=a;simp only at ha;by_cases hi:i<b.length
  ·by_cases h4:i<4000
   ·have hx:=hb.2 b[i] (List.getElem_mem hi);have hwb:IntKind.wrap .i64 b[i]=b[i]:=AC (by omega) (by omega);refine .inl ⟨(i+1,bits .and .i64 (IntKind.wrap .i64 (IntKind.wrap .i64 (IntKind.wrap .i64 (h*131)+b[i])+7)) 1073741823),by simp only;omega,by simp only;omega,?_⟩;have hinc:=A2 hi hbb;have h4':(i:Int)<4000:=by omega
    simp[b57_0,md,hi,h4,h4',hwb,hinc]
   ·refine .inr ⟨_,by simp[b57_0,md,hi,h4,show ¬ (i:Int)<4000 by omega];rfl,by simp,(i,h),false,by simp⟩
  ·refine .inr ⟨_,by simp[b57_0,md,hi];rfl,by simp,(i,h),false,by simp⟩) (0,h0) (Nat.zero_le _)
 refine⟨(0,a.2),Nat.zero_le _,AA (pf:=p57) rfl (by simp[p57]) ?_⟩;simp[p57,md,←hh0];rw[hlp]
 ·simp[hr]
 ·simp
 ·simp
theorem EL {x n:Int} (h:0<n->0<=x/\x<n) (hn:0<n): ∃k:Nat,x=k/\(k:Int)<n:=⟨x.toNat,by have:=h hn;omega,by have:=h hn;omega⟩
@[simp] def st96 (b:List Int) (c:Nat×Int) (m:List Int) (j:Nat):St:={n:=37,m:=1,tm:=[(0,.pb 0 0),(3,.ref 10000000 []),(4,.sc (.int .i64 j))],ob:=[(0,M3 b c),(10000000,.arr 1 (enc fI m))]}
def imgB (m:List Int):Prop:= ∀x∈m,-1000<=x/\x<=1000
theorem Pe {m:List Int} {k:Nat} {x:Int} (h:imgB m) (hx: -1000<=x/\x<=1000):imgB (m.set k x):=fun y hy=>by
 rcases List.mem_or_eq_of_mem_set hy with hy|rfl
 ·exact h y hy
 ·exact hx
theorem MF (b:List Int) (c:Nat×Int) (hb:byt b) (hc:c.1<=b.length): ∃m c',m.length<=9/\imgB m/\c'.1<=b.length/\AH G PK md 96 [.pm (cur b c)]=some ⟨[.v (.own 1 (enc fI m))],[],[cur b c']⟩:=by
 have e0:=FU (PK:=PK);obtain⟨r,⟨c1,m,j,hc1,hm,hmb,hr⟩,hlp⟩:=DN (G:=G) (PK:=PK) (md:=md) (o:=10000000) (live:=[0,3,4]) (c:=b96_0) (α:=(Nat×Int)×List Int×Nat) (fun a=>st96 b a.1 a.2.1 a.2.2) (fun a=>6 - a.2.2) (fun a=>a.1.1<=b.length/\a.2.1.length=8/\imgB a.2.1) (fun r=> ∃c m j,c.1<=b.length/\m.length=8/\imgB m/\r=(.exit 0,{st96 b c m j with tm:=(st96 b c m j).tm++[(9,.sc (.bool false))]})) (fun a ha=>by
  obtain⟨c,m,j⟩:=a;obtain⟨ha1,ha2,ha3⟩:=ha;simp only at ha1 ha2 ha3;obtain⟨x,c1,hx,_,h1,e1⟩:=AP (PK:=PK) b c 6 hb ha1 (by omega);have hx:=hx (by omega);simp only[cur]at e1;by_cases hj:(j:Int)<x
  ·obtain⟨y,c2,hy,_,h2,e2⟩:=AP (PK:=PK) b c1 8 hb h1 (by omega);obtain⟨z,c3,hz,_,h3,e3⟩:=AP (PK:=PK) b c2 9 hb h2 (by omega);obtain⟨y,rfl,hy⟩:=EL hy (by omega);have hz:=hz (by omega);simp only[cur]at e2 e3;have hinc:=A2 (j:=j) (n:=6) (by omega) (by omega);have hyl:y<m.length:=by omega
   refine .inl ⟨(c3,m.set y z,j+1),⟨h3,by simp only[List.length_set];exact ha2,Pe ha3 (by omega)⟩,by simp only;omega,?_⟩;have hset:(enc fI m).set y [T.sc (.int .i64 z)]=enc fI (m.set y z):=Bc fI m y z;simp[b96_0,md,e1,e2,e3,hj,hinc,hyl,hset]
  ·exact .inr ⟨_,by simp[b96_0,md,e1,hj];rfl,by simp,c1,m,j,h1,ha2,ha3,by simp⟩) (c,List.replicate 8 0,0) ⟨hc,rfl,fun x hx=>by rw[List.eq_of_mem_replicate hx];omega⟩
 obtain⟨x,c2,hx,_,h2,e2⟩:=AP (PK:=PK) b c1 12 hb hc1 (by omega);simp only[cur]at e2;have h8:enc fI (List.replicate 8 0)=List.replicate 8 [T.sc (.int .i64 0)]:=rfl;by_cases x0:x=0
 ·refine⟨m++[1],c2,by simp[hm],fun y hy=> ?_,h2,AA (pf:=p96) rfl (by simp[p96]) ?_⟩
  ·rcases List.mem_append.1 hy with hy|hy
   ·exact hmb y hy
   ·rw[List.mem_singleton.1 hy];omega
  simp[p96,md,e0];rw[hlp]
  ·simp[hr,e2,x0,hm];exact Ac fI m [1]
  ·simp
  ·simp[h8]
 by_cases x1:x=1
 ·obtain⟨y,c3,hy,h3,e3⟩:=Bj (PK:=PK) b c2 [-1,200,201] hb h2 (by simp) (by simp);simp only[cur,BZ,BK,fI]at e3;have hyb: -1000<=y/\y<=1000:=by simp at hy;omega
  refine⟨m.set 0 y,c3,by simp[hm],Pe hmb hyb,h3,AA (pf:=p96) rfl (by simp[p96]) ?_⟩;have hset:(enc fI m).set 0 [T.sc (.int .i64 y)]=enc fI (m.set 0 y):=Bc fI m 0 y;simp[p96,md,e0];rw[hlp]
  ·simp[hr,e2,e3,x1,hm,hset]
  ·simp
  ·simp[h8]
 by_cases x2:x=2
 ·refine⟨m.take 3,c2,by simp[hm],fun y hy=>hmb y (List.mem_of_mem_take hy),h2,AA (pf:=p96) rfl (by simp[p96]) ?_⟩;simp[p96,md,e0];rw[hlp]
  ·simp[hr,e2,x2,hm,A5]
  ·simp
  ·simp[h8]
 refine⟨m,c2,by simp[hm],hmb,h2,AA (pf:=p96) rfl (by simp[p96]) ?_⟩;simp[p96,md,e0];rw[hlp]
 ·simp[hr,e2,x0,x1,x2,hm]
 ·simp
 ·simp[h8]
end Go.Proofs.YtbolhfegdocpeaaGreat.Ow
