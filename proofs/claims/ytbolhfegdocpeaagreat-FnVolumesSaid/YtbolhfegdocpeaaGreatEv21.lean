/- Functions evaluated on the small machine: The cursor of the draws: evaluated; what is drawn is told by its bounds alone, What is drawn: images, marks, generations, messages; told by their bounds alone, What is drawn: marks, generations, messages, bytes, metas, slots; told by their bounds alone. -/
import Derived.Test.YtbolhfegdocpeaaGreatEv3
import Derived.Test.YtbolhfegdocpeaaGreatEv0
import Derived.Test.YtbolhfegdocpeaaGreatEv9
import Derived.Test.YtbolhfegdocpeaaGreatEv12
import Derived.Test.YtbolhfegdocpeaaGreatEv20
namespace Go.Proofs.YtbolhfegdocpeaaGreat.Ow
open Go
set_option linter.unusedVariables false
set_option linter.unusedSimpArgs false
set_option maxHeartbeats 4000000
variable {PK:Nat->List Arg->Option Res}
@[simp] def cur (b:List Int) (c:Nat×Int):List L:=[.im 1 (enc fU b),.sc (.int .i64 c.1),.sc (.int .i64 c.2)]
theorem ev_l1Byte (b:List Int) (c:Nat×Int) (hb:byt b) (hc:c.1<=b.length): ∃x c',0<=x/\x<256/\c'.1<=b.length/\semK G PK md 102 [.pm (cur b c)]=some ⟨[.v (.sc (.int .i64 x))],[],[cur b c']⟩:=by
 obtain⟨i,h⟩:=c
 obtain⟨h2,hh⟩: ∃h2,h2=IntKind.wrap .i64 (IntKind.wrap .i64 (h*6364136223846793005)+1442695040888963407):=⟨_,rfl⟩
 have b1:min 33 IntKind.i64.bits=33:=rfl
 have b2:min 45 IntKind.i64.bits=45:=rfl
 obtain⟨q,hq⟩: ∃q,q=bits .xor .i64 (h2.fdiv 8589934592) (h2.fdiv 35184372088832):=⟨_,rfl⟩
 have hbb:=hb.1
 by_cases hi:i<b.length
 ·have hx:=hb.2 b[i] (List.getElem_mem hi)
  have hwb:IntKind.wrap .i64 b[i]=b[i]:=wrap_id (by omega) (by omega)
  refine⟨(q%256+b[i])%256,(i+1,h2),by omega,by omega,by show i+1<=b.length;omega,semK_of (pf:=p102) rfl (by simp[p102]) ?_⟩
  have hw:IntKind.wrap .i64 (q%256+b[i])=q%256+b[i]:=wrap_id (by omega) (by omega)
  have hinc:=incr hi hbb
  simp[p102,md,hi,←hh,b1,b2,and255,←hq,hwb,hw,hinc]
 ·refine⟨q%256,(i,h2),by omega,by omega,hc,semK_of (pf:=p102) rfl (by simp[p102]) ?_⟩
  simp[p102,md,hi,←hh,b1,b2,and255,←hq]
theorem ev_l1Below (b:List Int) (c:Nat×Int) (n:Int) (hb:byt b) (hc:c.1<=b.length) (hN:n<=1152921504606846976): ∃x c',(0<n->0<=x/\x<n)/\(n<=0->x=0)/\c'.1<=b.length/\semK G PK md 68 [.pm (cur b c),.v (.sc (.int .i64 n))]=some ⟨[.v (.sc (.int .i64 x))],[],[cur b c']⟩:=by
 by_cases h0:n<=0
 ·refine⟨0,c,fun h=>by omega,fun _=>rfl,hc,semK_of (pf:=p68) rfl (by simp[p68]) ?_⟩
  simp[p68,md,h0]
 obtain⟨x,c1,x0,x1,h1,e1⟩:=ev_l1Byte (PK:=PK) b c hb hc
 have e1':=e1
 simp only[cur]at e1'
 have hn:0<n:=by omega
 have hnn:n≠0:=by omega
 by_cases h2:n<=256
 ·refine⟨x.tmod n,c1,fun _=>⟨Int.tmod_nonneg _ x0,Int.tmod_lt_of_pos _ hn⟩,fun h=>by omega,h1,semK_of (pf:=p68) rfl (by simp[p68]) ?_⟩
  have hr0:0<=x.tmod n:=Int.tmod_nonneg _ x0
  have hr1:x.tmod n<n:=Int.tmod_lt_of_pos _ hn
  have hw:IntKind.wrap .i64 (x.tmod n)=x.tmod n:=wrap_id (by omega) (by omega)
  simp[p68,md,h0,h2,e1',hnn,hw]
 obtain⟨y,c2,y0,y1,g2,e2⟩:=ev_l1Byte (PK:=PK) b c1 hb h1
 obtain⟨z,c3,z0,z1,g3,e3⟩:=ev_l1Byte (PK:=PK) b c2 hb g2
 obtain⟨w,c4,w0,w1,g4,e4⟩:=ev_l1Byte (PK:=PK) b c3 hb g3
 simp only[cur]at e1 e2 e3 e4
 obtain⟨v,hv⟩: ∃v,v=x*16777216+y*65536+z*256+w:=⟨_,rfl⟩
 have v0:0<=v:=by omega
 have v1:v<4294967296:=by omega
 have w5:IntKind.wrap .i64 (x*16777216)=x*16777216:=wrap_id (by omega) (by omega)
 have w6:IntKind.wrap .i64 (y*65536)=y*65536:=wrap_id (by omega) (by omega)
 have w7:IntKind.wrap .i64 (z*256)=z*256:=wrap_id (by omega) (by omega)
 have w8:IntKind.wrap .i64 (x*16777216+y*65536)=x*16777216+y*65536:=wrap_id (by omega) (by omega)
 have w9:IntKind.wrap .i64 (x*16777216+y*65536+z*256)=x*16777216+y*65536+z*256:=wrap_id (by omega) (by omega)
 have w10:IntKind.wrap .i64 (x*16777216+y*65536+z*256+w)=v:=by rw[hv];exact wrap_id (by omega) (by omega)
 have hr0:0<=v.tmod n:=Int.tmod_nonneg _ v0
 have hr1:v.tmod n<n:=Int.tmod_lt_of_pos _ hn
 have hw:IntKind.wrap .i64 (v.tmod n)=v.tmod n:=wrap_id (by omega) (by omega)
 refine⟨v.tmod n,c4,fun _=>⟨hr0,Int.tmod_lt_of_pos _ hn⟩,fun h=>by omega,g4,semK_of (pf:=p68) rfl (by simp[p68]) ?_⟩
 simp[p68,md,h0,h2,e1,e2,e3,e4,hnn,w5,w6,w7,w8,w9,w10,hw]
theorem ev_l1Once (b:List Int) (c:Nat×Int) (n:Int) (hb:byt b) (hc:c.1<=b.length) (hN:n<=1152921504606846976): ∃r c',c'.1<=b.length/\semK G PK md 67 [.pm (cur b c),.v (.sc (.int .i64 n))]=some ⟨[.v (.sc (.bool r))],[],[cur b c']⟩:=by
 obtain⟨x,c1,_,_,h1,e1⟩:=ev_l1Below (PK:=PK) b c n hb hc hN
 simp only[cur]at e1
 refine⟨x==0,c1,h1,semK_of (pf:=p67) rfl (by simp[p67]) ?_⟩
 simp[p67,md,e1]
theorem ev_l1PickInt (b:List Int) (c:Nat×Int) (l:List Int) (hb:byt b) (hc:c.1<=b.length) (hl:l≠[]) (hs:l.length<=1048576): ∃x c',x∈l/\c'.1<=b.length/\semK G PK md 75 [.pm (cur b c),.v (.own 1 (enc fI l))]=some ⟨[.v (.sc (.int .i64 x))],[some (enc fI l)],[cur b c']⟩:=by
 obtain⟨x,c1,g1,_,h1,e1⟩:=ev_l1Below (PK:=PK) b c l.length hb hc (by omega)
 have hp:0<l.length:=List.length_pos_iff.2 hl
 have g:=g1 (by omega)
 obtain⟨j,rfl⟩: ∃j:Nat,x=j:=⟨x.toNat,by omega⟩
 have hj:j<l.length:=by omega
 simp only[cur]at e1
 refine⟨l[j],c1,List.getElem_mem hj,h1,semK_of (pf:=p75) rfl (by simp[p75]) ?_⟩
 simp[p75,md,e1,hj]
end Go.Proofs.YtbolhfegdocpeaaGreat.Ow
namespace Go.Proofs.YtbolhfegdocpeaaGreat.Ow
open Go
set_option linter.unusedVariables false
set_option linter.unusedSimpArgs false
set_option maxHeartbeats 8000000
variable {PK:Nat->List Arg->Option Res}
@[simp] def curB (b:List Int) (c:Nat×Int):Obj:= .box [.im 1 (enc fU b),.sc (.int .i64 c.1),.sc (.int .i64 c.2)]
@[simp] def st57 (b:List Int) (a:Nat×Int):St:={n:=32,m:=0,tm:=[(0,.im 1 (enc fU b)),(3,.sc (.int .i64 a.2)),(4,.sc (.int .i64 a.1))],ob:=[]}
theorem ev_l1New (b:List Int) (hb:byt b): ∃c,c.1<=b.length/\semK G PK md 57 [.v (.im 1 (enc fU b))]=some ⟨[.p (cur b c)],[],[]⟩:=by
 have hbb:=hb.1
 obtain⟨h0,hh0⟩: ∃h0,h0=IntKind.wrap .i64 (24770+(b.length:Int)):=⟨_,rfl⟩
 obtain⟨r,⟨a,_,hr⟩,hlp⟩:=loop_ex (G:=G) (PK:=PK) (md:=md) (o:=10000000) (live:=[0,3,4]) (c:=b57_0) (st57 b) (fun a=>b.length - a.1) (fun a=>a.1<=b.length) (fun r=> ∃a x,r=(.exit 0,{st57 b a with tm:=(st57 b a).tm++[(15,.sc (.bool x))]})) (fun a ha=>by
  obtain⟨i,h⟩:=a
  simp only at ha
  by_cases hi:i<b.length
  ·by_cases h4:i<4000
   ·have hx:=hb.2 b[i] (List.getElem_mem hi)
    have hwb:IntKind.wrap .i64 b[i]=b[i]:=wrap_id (by omega) (by omega)
    refine .inl ⟨(i+1,bits .and .i64 (IntKind.wrap .i64 (IntKind.wrap .i64 (IntKind.wrap .i64 (h*131)+b[i])+7)) 1073741823),by simp only;omega,by simp only;omega,?_⟩
    have hinc:=incr hi hbb
    have h4':(i:Int)<4000:=by omega
    simp[b57_0,md,hi,h4,h4',hwb,hinc]
   ·refine .inr ⟨_,by simp[b57_0,md,hi,h4,show ¬ (i:Int)<4000 by omega];rfl,by simp,(i,h),false,by simp⟩
  ·refine .inr ⟨_,by simp[b57_0,md,hi];rfl,by simp,(i,h),false,by simp⟩) (0,h0) (Nat.zero_le _)
 refine⟨(0,a.2),Nat.zero_le _,semK_of (pf:=p57) rfl (by simp[p57]) ?_⟩
 simp[p57,md,←hh0]
 rw[hlp]
 ·simp[hr]
 ·simp
 ·simp
theorem draw_lt {x n:Int} (h:0<n->0<=x/\x<n) (hn:0<n): ∃k:Nat,x=k/\(k:Int)<n:=⟨x.toNat,by have:=h hn;omega,by have:=h hn;omega⟩
@[simp] def st96 (b:List Int) (c:Nat×Int) (m:List Int) (j:Nat):St:={n:=37,m:=1,tm:=[(0,.pb 0 0),(3,.ref 10000000 []),(4,.sc (.int .i64 j))],ob:=[(0,curB b c),(10000000,.arr 1 (enc fI m))]}
def imgB (m:List Int):Prop:= ∀x∈m,-1000<=x/\x<=1000
theorem imgB_set {m:List Int} {k:Nat} {x:Int} (h:imgB m) (hx: -1000<=x/\x<=1000):imgB (m.set k x):=fun y hy=>by
 rcases List.mem_or_eq_of_mem_set hy with hy|rfl
 ·exact h y hy
 ·exact hx
theorem ev_l2DrawImage (b:List Int) (c:Nat×Int) (hb:byt b) (hc:c.1<=b.length): ∃m c',m.length<=9/\imgB m/\c'.1<=b.length/\semK G PK md 96 [.pm (cur b c)]=some ⟨[.v (.own 1 (enc fI m))],[],[cur b c']⟩:=by
 have e0:=ev_spec_ImageNew (PK:=PK)
 obtain⟨r,⟨c1,m,j,hc1,hm,hmb,hr⟩,hlp⟩:=loop_ex (G:=G) (PK:=PK) (md:=md) (o:=10000000) (live:=[0,3,4]) (c:=b96_0) (α:=(Nat×Int)×List Int×Nat) (fun a=>st96 b a.1 a.2.1 a.2.2) (fun a=>6 - a.2.2) (fun a=>a.1.1<=b.length/\a.2.1.length=8/\imgB a.2.1) (fun r=> ∃c m j,c.1<=b.length/\m.length=8/\imgB m/\r=(.exit 0,{st96 b c m j with tm:=(st96 b c m j).tm++[(9,.sc (.bool false))]})) (fun a ha=>by
  obtain⟨c,m,j⟩:=a
  obtain⟨ha1,ha2,ha3⟩:=ha
  simp only at ha1 ha2 ha3
  obtain⟨x,c1,hx,_,h1,e1⟩:=ev_l1Below (PK:=PK) b c 6 hb ha1 (by omega)
  have hx:=hx (by omega)
  simp only[cur]at e1
  by_cases hj:(j:Int)<x
  ·obtain⟨y,c2,hy,_,h2,e2⟩:=ev_l1Below (PK:=PK) b c1 8 hb h1 (by omega)
   obtain⟨z,c3,hz,_,h3,e3⟩:=ev_l1Below (PK:=PK) b c2 9 hb h2 (by omega)
   obtain⟨y,rfl,hy⟩:=draw_lt hy (by omega)
   have hz:=hz (by omega)
   simp only[cur]at e2 e3
   have hinc:=incr (j:=j) (n:=6) (by omega) (by omega)
   have hyl:y<m.length:=by omega
   refine .inl ⟨(c3,m.set y z,j+1),⟨h3,by simp only[List.length_set];exact ha2,imgB_set ha3 (by omega)⟩,by simp only;omega,?_⟩
   have hset:(enc fI m).set y [T.sc (.int .i64 z)]=enc fI (m.set y z):=enc_set fI m y z
   simp[b96_0,md,e1,e2,e3,hj,hinc,hyl,hset]
  ·exact .inr ⟨_,by simp[b96_0,md,e1,hj];rfl,by simp,c1,m,j,h1,ha2,ha3,by simp⟩) (c,List.replicate 8 0,0) ⟨hc,rfl,fun x hx=>by rw[List.eq_of_mem_replicate hx];omega⟩
 obtain⟨x,c2,hx,_,h2,e2⟩:=ev_l1Below (PK:=PK) b c1 12 hb hc1 (by omega)
 simp only[cur]at e2
 have h8:enc fI (List.replicate 8 0)=List.replicate 8 [T.sc (.int .i64 0)]:=rfl
 by_cases x0:x=0
 ·refine⟨m++[1],c2,by simp[hm],fun y hy=> ?_,h2,semK_of (pf:=p96) rfl (by simp[p96]) ?_⟩
  ·rcases List.mem_append.1 hy with hy|hy
   ·exact hmb y hy
   ·rw[List.mem_singleton.1 hy];omega
  simp[p96,md,e0]
  rw[hlp]
  ·simp[hr,e2,x0,hm]
   exact enc_append fI m [1]
  ·simp
  ·simp[h8]
 by_cases x1:x=1
 ·obtain⟨y,c3,hy,h3,e3⟩:=ev_l1PickInt (PK:=PK) b c2 [-1,200,201] hb h2 (by simp) (by simp)
  simp only[cur,enc_cons,enc_nil,fI]at e3
  have hyb: -1000<=y/\y<=1000:=by simp at hy;omega
  refine⟨m.set 0 y,c3,by simp[hm],imgB_set hmb hyb,h3,semK_of (pf:=p96) rfl (by simp[p96]) ?_⟩
  have hset:(enc fI m).set 0 [T.sc (.int .i64 y)]=enc fI (m.set 0 y):=enc_set fI m 0 y
  simp[p96,md,e0]
  rw[hlp]
  ·simp[hr,e2,e3,x1,hm,hset]
  ·simp
  ·simp[h8]
 by_cases x2:x=2
 ·refine⟨m.take 3,c2,by simp[hm],fun y hy=>hmb y (List.mem_of_mem_take hy),h2,semK_of (pf:=p96) rfl (by simp[p96]) ?_⟩
  simp[p96,md,e0]
  rw[hlp]
  ·simp[hr,e2,x2,hm,enc_take]
  ·simp
  ·simp[h8]
 refine⟨m,c2,by simp[hm],hmb,h2,semK_of (pf:=p96) rfl (by simp[p96]) ?_⟩
 simp[p96,md,e0]
 rw[hlp]
 ·simp[hr,e2,x0,x1,x2,hm]
 ·simp
 ·simp[h8]
end Go.Proofs.YtbolhfegdocpeaaGreat.Ow
namespace Go.Proofs.YtbolhfegdocpeaaGreat.Ow
open Go
set_option linter.unusedVariables false
set_option linter.unusedSimpArgs false
set_option maxHeartbeats 8000000
variable {PK:Nat->List Arg->Option Res}
@[simp] def st115 (b:List Int) (c:Nat×Int) (m:List Int) (j:Nat):St:={n:=25,m:=1,tm:=[(0,.pb 0 0),(3,.ref 10000000 []),(4,.sc (.int .i64 j))],ob:=[(0,curB b c),(10000000,.arr 1 (enc fI m))]}
theorem ev_l2DrawMarks (b:List Int) (c:Nat×Int) (hb:byt b) (hc:c.1<=b.length): ∃m c',m.length<=9/\c'.1<=b.length/\semK G PK md 115 [.pm (cur b c)]=some ⟨[.v (.own 1 (enc fI m))],[],[cur b c']⟩:=by
 obtain⟨r,⟨c1,m,j,hc1,hm,hr⟩,hlp⟩:=loop_ex (G:=G) (PK:=PK) (md:=md) (o:=10000000) (live:=[0,3,4]) (c:=b115_0) (α:=(Nat×Int)×List Int×Nat) (fun a=>st115 b a.1 a.2.1 a.2.2) (fun a=>6 - a.2.2) (fun a=>a.1.1<=b.length/\a.2.1.length<=a.2.2/\a.2.2<=6) (fun r=> ∃c m j,c.1<=b.length/\m.length<=6/\r=(.exit 0,{st115 b c m j with tm:=(st115 b c m j).tm++[(9,.sc (.bool false))]})) (fun a ha=>by
  obtain⟨c,m,j⟩:=a
  obtain⟨ha1,ha2,ha3⟩:=ha
  simp only at ha1 ha2 ha3
  obtain⟨x,c1,hx,_,h1,e1⟩:=ev_l1Below (PK:=PK) b c 5 hb ha1 (by omega)
  have hx:=hx (by omega)
  simp only[cur]at e1
  by_cases hj:(j:Int)<x
  ·obtain⟨y,c2,hy,_,h2,e2⟩:=ev_l1Below (PK:=PK) b c1 8 hb h1 (by omega)
   have e3:=ev_Mark (PK:=PK) m y (by omega)
   have hl:=mark_len m y
   simp only[cur]at e2
   have hinc:=incr (j:=j) (n:=6) (by omega) (by omega)
   refine .inl ⟨(c2,mark m y,j+1),⟨h2,by simp only;omega,by simp only;omega⟩,by simp only;omega,?_⟩
   simp[b115_0,md,e1,e2,e3,hj,hinc]
  ·exact .inr ⟨_,by simp[b115_0,md,e1,hj];rfl,by simp,c1,m,j,h1,by omega,by simp⟩) (c,[],0) ⟨hc,by simp,by simp⟩
 obtain⟨x,c2,h2,e2⟩:=ev_l1Once (PK:=PK) b c1 10 hb hc1 (by omega)
 simp only[cur]at e2
 cases x
 ·refine⟨m,c2,by omega,h2,semK_of (pf:=p115) rfl (by simp[p115]) ?_⟩
  simp[p115,md]
  rw[hlp]
  ·simp[hr,e2]
  ·simp
  ·simp
 ·obtain⟨y,c3,hy,h3,e3⟩:=ev_l1PickInt (PK:=PK) b c2 [-1,0,7,8] hb h2 (by simp) (by simp)
  simp only[cur,enc_cons,enc_nil,fI]at e3
  refine⟨m++[y],c3,by simp;omega,h3,semK_of (pf:=p115) rfl (by simp[p115]) ?_⟩
  have g:(m.length+1)*8<=35184372088832:=by omega
  simp[p115,md]
  rw[hlp]
  ·simp[hr,e2,e3,g]
   exact enc_append fI m [y]
  ·simp
  ·simp
@[simp] def st155 (b:List Int) (c:Nat×Int) (m:List Int) (j:Nat):St:={n:=18,m:=1,tm:=[(0,.pb 0 0),(3,.ref 10000000 []),(4,.sc (.int .i64 j))],ob:=[(0,curB b c),(10000000,.arr 1 (enc fI m))]}
theorem ev_l7DrawRight (b:List Int) (c:Nat×Int) (hb:byt b) (hc:c.1<=b.length): ∃m c',m.length<=60/\c'.1<=b.length/\semK G PK md 155 [.pm (cur b c)]=some ⟨[.v (.own 1 (enc fI m))],[],[cur b c']⟩:=by
 obtain⟨r,⟨c1,m,j,hc1,hm,hr⟩,hlp⟩:=loop_ex (G:=G) (PK:=PK) (md:=md) (o:=10000000) (live:=[0,3,4]) (c:=b155_0) (α:=(Nat×Int)×List Int×Nat) (fun a=>st155 b a.1 a.2.1 a.2.2) (fun a=>5 - a.2.2) (fun a=>a.1.1<=b.length/\a.2.1.length<=a.2.2*12/\a.2.2<=5) (fun r=> ∃c m j,c.1<=b.length/\m.length<=60/\r=(.exit 0,{st155 b c m j with tm:=(st155 b c m j).tm++[(9,.sc (.bool false))]})) (fun a ha=>by
  obtain⟨c,m,j⟩:=a
  obtain⟨ha1,ha2,ha3⟩:=ha
  simp only at ha1 ha2 ha3
  obtain⟨x,c1,hx,_,h1,e1⟩:=ev_l1Below (PK:=PK) b c 4 hb ha1 (by omega)
  have hx:=hx (by omega)
  simp only[cur]at e1
  by_cases hj:(j:Int)<x
  ·obtain⟨y,c2,hy,_,h2,e2⟩:=ev_l1Below (PK:=PK) b c1 6 hb h1 (by omega)
   have hy:=hy (by omega)
   have e3:=ev_spec_GenPush (PK:=PK) m (1+y) (by omega)
   have hl:=genPush_len m (1+y)
   have hw:IntKind.wrap .i64 (1+y)=1+y:=wrap_id (by omega) (by omega)
   simp only[cur]at e2
   have hinc:=incr (j:=j) (n:=6) (by omega) (by omega)
   refine .inl ⟨(c2,genPush m (1+y),j+1),⟨h2,by simp only;omega,by simp only;omega⟩,by simp only;omega,?_⟩
   simp[b155_0,md,e1,e2,e3,hj,hinc,hw]
  ·exact .inr ⟨_,by simp[b155_0,md,e1,hj];rfl,by simp,c1,m,j,h1,by omega,by simp⟩) (c,[],0) ⟨hc,by simp,by simp⟩
 refine⟨m,c1,hm,hc1,semK_of (pf:=p155) rfl (by simp[p155]) ?_⟩
 simp[p155,md]
 rw[hlp]
 ·simp[hr]
 ·simp
 ·simp
theorem ev_l4DrawRight (b:List Int) (c:Nat×Int) (hb:byt b) (hc:c.1<=b.length): ∃m c',m.gens.length<=60/\c'.1<=b.length/\semK G PK md 118 [.pm (cur b c)]=some ⟨[.a (owneds (fMs m))],[],[cur b c']⟩:=by
 obtain⟨x,c1,hx,_,h1,e1⟩:=ev_l1Below (PK:=PK) b c 5 hb hc (by omega)
 have hx:=hx (by omega)
 have hw:IntKind.wrap .i64 (1+x)=1+x:=wrap_id (by omega) (by omega)
 simp only[cur]at e1
 by_cases h5:1+x=5
 ·obtain⟨g,c2,hg,h2,e2⟩:=ev_l7DrawRight (PK:=PK) b c1 hb h1
  obtain⟨y,c3,hy,_,h3,e3⟩:=ev_l1Below (PK:=PK) b c2 9 hb h2 (by omega)
  simp only[cur]at e2 e3
  refine⟨⟨5,0,y,0,g⟩,c3,hg,h3,semK_of (pf:=p118) rfl (by simp[p118]) ?_⟩
  have w5:IntKind.wrap .i64 5=5:=rfl
  simp[p118,md,e1,e2,e3,hw,h5,w5]
 ·obtain⟨y,c2,hy,_,h2,e2⟩:=ev_l1Below (PK:=PK) b c1 8 hb h1 (by omega)
  obtain⟨z,c3,hz,_,h3,e3⟩:=ev_l1Below (PK:=PK) b c2 9 hb h2 (by omega)
  have hz:=hz (by omega)
  have hw2:IntKind.wrap .i64 (1+z)=1+z:=wrap_id (by omega) (by omega)
  simp only[cur]at e2 e3
  by_cases k3:1+x=3
  ·obtain⟨u,c4,hu,_,h4,e4⟩:=ev_l1Below (PK:=PK) b c3 3 hb h3 (by omega)
   simp only[cur]at e4
   refine⟨⟨3,y,1+z,u,[]⟩,c4,by simp,h4,semK_of (pf:=p118) rfl (by simp[p118]) ?_⟩
   have w5:IntKind.wrap .i64 3=3:=rfl
   simp[p118,md,e1,e2,e3,e4,hw,hw2,h5,k3,w5]
  ·refine⟨⟨1+x,y,1+z,0,[]⟩,c3,by simp,h3,semK_of (pf:=p118) rfl (by simp[p118]) ?_⟩
   simp[p118,md,e1,e2,e3,hw,hw2,h5,k3]
theorem ev_l4Dent (b:List Int) (c:Nat×Int) (s:List Int) (hb:byt b) (hc:c.1<=b.length) (hs:byt s) (hs1:s.length<=1000): ∃r c' fin,byt r/\c'.1<=b.length/\(fin=[none]\/fin=[some (enc fU s)])/\semK G PK md 146 [.pm (cur b c),.v (.own 1 (enc fU s))]=some ⟨[.v (.own 1 (enc fU r))],fin,[cur b c']⟩:=by
 have w0:IntKind.wrap .i64 ((s.length:Int)+1)=s.length+1:=wrap_id (by omega) (by omega)
 obtain⟨at_,c1,ha,_,h1,e1⟩:=ev_l1Below (PK:=PK) b c (s.length+1) hb hc (by omega)
 obtain⟨k,rfl,hk⟩:=draw_lt ha (by omega)
 obtain⟨x,c2,hx,_,h2,e2⟩:=ev_l1Below (PK:=PK) b c1 5 hb h1 (by omega)
 simp only[cur]at e1 e2
 have hkl:k<=s.length:=by omega
 by_cases x0:x=0
 ·refine⟨s.take k,c2,[none],⟨by rw[List.length_take];omega,fun y hy=>hs.2 y (List.mem_of_mem_take hy)⟩,h2,.inl rfl,semK_of (pf:=p146) rfl (by simp[p146]) ?_⟩
  simp[p146,md,w0,e1,e2,x0,hkl,enc_take]
 by_cases x1:x=1
 ·obtain⟨y,c3,hy,h3,e3⟩:=ev_l1PickInt (PK:=PK) b c2 [0,1,128,3] hb h2 (by simp) (by simp)
  simp only[cur,enc_cons,enc_nil,fI]at e3
  have hyb:0<=y/\y<256:=by simp at hy;omega
  have hyw:IntKind.wrap .u8 y=y:=by rw[wrap_u8];omega
  refine⟨s.take k++y::s.drop k,c3,[some (enc fU s)],⟨by simp;omega,fun z hz=> ?_⟩,h3,.inr rfl,semK_of (pf:=p146) rfl (by simp[p146]) ?_⟩
  ·rcases List.mem_append.1 hz with hz|hz
   ·exact hs.2 z (List.mem_of_mem_take hz)
   ·rcases List.mem_cons.1 hz with rfl|hz
    ·exact hyb
    ·exact hs.2 z (List.mem_of_mem_drop hz)
  have g1:k<=35184372088832:=by omega
  have g2:s.length - k+1<=35184372088832:=by omega
  have g4:1+(s.length - k)<=35184372088832:=by omega
  have g3:k+(s.length - k+1)<=35184372088832:=by omega
  have hf1:flat (List.take k (enc fU s))=true:=flat_take (flat_U _)
  have hf2:flat (List.drop k (enc fU s))=true:=flat_drop (flat_U _)
  have ht:List.take s.length (enc fU s)=enc fU s:=List.take_of_length_le (by simp)
  simp (config:={maxSteps:=10000000}) [p146,md,w0,e1,e2,e3,x1,hkl,hyw,g1,g2,g3,g4,hf1,hf2,ht,Alike2]
  try simp[enc,List.map_take,List.map_drop]
 ·refine⟨s,c2,[none],hs,h2,.inl rfl,semK_of (pf:=p146) rfl (by simp[p146]) ?_⟩
  simp[p146,md,w0,e1,e2,x0,x1]
end Go.Proofs.YtbolhfegdocpeaaGreat.Ow
