/- Functions evaluated on the small machine: Stores that are right, snaps, moments, being sure: evaluated, Blocks of a store: evaluated, Bytes of a store, plain. -/
import Derived.Test.YtbolhfegdocpeaaGreatEv8
namespace Go.Proofs.YtbolhfegdocpeaaGreat.Ow
open Go
set_option linter.unusedVariables false
set_option linter.unusedSimpArgs false
set_option maxHeartbeats 4000000
variable {PK:Nat->List Arg->Option Res}
def blkOk (b:List Int):Bool:=decide (b.length=8)
def storeOk (s:StoreD):Bool:=worldOk s.w&&decide (s.blocks.length=s.w.log.length)&&s.blocks.all blkOk
structure stS (s:StoreD):Prop where
 w:wS s.w
 blocks:s.blocks.length<=1048576
 block: ∀b∈s.blocks,byt b
theorem all_allB {α:Type} (q:α->Bool) (l:List α) (d:α):allB (fun j=>q (l.getD j d)) l.length=l.all q:=by
 cases h:l.all q
 ·rw[List.all_eq_false]at h
  obtain⟨x,hx,h2⟩:=h
  obtain⟨j,hj⟩:=List.getElem?_of_mem hx
  exact allB_false (List.getElem?_eq_some_iff.1 hj).1 (by simp only[getD_of hj];simpa using h2)
 ·refine allB_true fun j hj=> ?_
  obtain⟨x,_,hx,_,hd,hm⟩:=get_ex l d hj
  rw[hd]
  exact List.all_eq_true.1 h x hm
@[simp] def sbox (s:StoreD):Obj:= .box [.im 16 (enc fN s.w.nodes),.im 3 (enc fW s.w.net),.im 2 (enc fR s.w.log),.im 1 (enc fI s.w.safe),.sc (.int .i64 s.w.gen),.im 1 (enc fUU s.blocks)]
theorem ev_spec_BlockOk (b:List Int):semK G PK md 108 [.v (.im 1 (enc fU b))]=some ⟨[.v (.sc (.bool (blkOk b)))],[],[]⟩:=by
 refine semK_of (pf:=p108) rfl (by simp[p108]) ?_
 unfold blkOk
 by_cases h:b.length=8
 ·have h':(b.length:Int)=8:=by omega
  simp[p108,h,h']
 ·have h': ¬ (b.length:Int)=8:=by omega
  simp[p108,h,h']
theorem ev_impl_BlockOk (b:List Int):semK G PK md 105 [.v (.im 1 (enc fU b))]=some ⟨[.v (.sc (.bool (blkOk b)))],[],[]⟩:=by
 refine semK_of (pf:=p105) rfl (by simp[p105]) ?_
 unfold blkOk
 by_cases h:b.length=8
 ·have h':(b.length:Int)=8:=by omega
  simp[p105,h,h']
 ·have h': ¬ (b.length:Int)=8:=by omega
  simp[p105,h,h']
theorem ev_StoreOk1 (b:List Int):semK G PK md 104 [.v (.im 1 (enc fU b))]=some ⟨[.v (.sc (.bool (!blkOk b)))],[],[]⟩:=by
 refine semK_of (pf:=p104) rfl (by simp[p104]) ?_
 have e:=ev_impl_BlockOk (PK:=PK) b
 simp[p104,md,e]
@[simp] def st72 (s:StoreD) (j:Nat):St:={n:=31,m:=0,tm:=[(1,.pb 10000000 0),(3,.sc (.int .i64 j))],ob:=[(10000000,sbox s)]}
theorem ev_spec_StoreOk (s:StoreD) (hs:stS s):semK G PK md 72 [.a (lents (fSt s))]=some ⟨[.v (.sc (.bool (storeOk s)))],[],[]⟩:=by
 refine semK_of (pf:=p72) rfl (by simp[p72]) ?_
 have e:=ev_spec_WorldOk (PK:=PK) s.w hs.w
 simp only[lents,lent,fWo]at e
 unfold storeOk
 rw[←all_allB blkOk s.blocks []]
 obtain⟨bad,hb,hsz⟩:=loop_all (G:=G) (PK:=PK) (md:=md) (o:=10000000) (live:=[1,3]) (c:=b72_0) (st72 s) (fun j=>blkOk (s.blocks.getD j [])) (s.blocks.length) (fun s=>s.m=0/\getT s.tm 2= .sc (.bool false)) (fun j hj=>by
  obtain⟨x,y1,hx,hx',hxd,hxm⟩:=get_ex s.blocks [] hj
  have hinc:=incr hj hs.blocks
  have e:=ev_spec_BlockOk (PK:=PK) x
  simp only[hxd]
  generalize blkOk x=b1 at e ⊢
  cases b1<;>simp[b72_0,md,hj,hx',e,hinc]) (by simp[b72_0])
 cases hp:allB (fun j=>blkOk (s.blocks.getD j [])) s.blocks.length
 ·obtain⟨g1,g2⟩:=hb hp
  simp only[hp]at hsz
  simp[p72,md]
  rw[hsz]
  ·simp[g1,g2]
  ·simp
  ·simp
 ·simp only[hp]at hsz
  generalize worldOk s.w=b2 at e ⊢
  simp[p72,md]
  rw[hsz]
  ·cases b2
   ·simp[b72_0,md,e]
   ·by_cases hl:s.blocks.length=s.w.log.length
    ·have hl':(s.blocks.length:Int)=s.w.log.length:=by omega
     simp[b72_0,md,e,hl,hl']
    ·have hl': ¬ (s.blocks.length:Int)=s.w.log.length:=by omega
     simp[b72_0,md,e,hl,hl']
  ·simp
  ·simp
theorem ev_impl_StoreOk (s:StoreD) (hs:stS s):semK G PK md 70 [.a (lents (fSt s))]=some ⟨[.v (.sc (.bool (storeOk s)))],[],[]⟩:=by
 refine semK_of (pf:=p70) rfl (by simp[p70]) ?_
 have e:=ev_impl_WorldOk (PK:=PK) s.w hs.w
 have e2:=ev_HasUU0 (PK:=PK) 104 (fun b=> !blkOk b) s.blocks hs.blocks rfl (fun b _=>ev_StoreOk1 b)
 simp only[lents,lent,fWo]at e
 unfold storeOk
 have hq:s.blocks.any (fun b=> !blkOk b)= !s.blocks.all blkOk:=by rw[List.not_all_eq_any_not]
 rw[hq]at e2
 generalize worldOk s.w=b2 at e ⊢
 cases b2
 ·simp[p70,md,e]
 by_cases hl:s.blocks.length=s.w.log.length
 case neg=>
  have hl': ¬ (s.blocks.length:Int)=s.w.log.length:=by omega
  simp[p70,md,e,hl,hl']
 have hl':(s.blocks.length:Int)=s.w.log.length:=by omega
 generalize s.blocks.all blkOk=b3 at e2 ⊢
 cases b3
 ·simp[p70,md,e,hl,hl',e2]
 ·simp[p70,md,e,hl,hl',e2]
theorem storeOk_w {s:StoreD} (h:storeOk s=true):worldOk s.w=true:=by
 unfold storeOk at h
 simp only[Bool.and_eq_true]at h
 exact h.1.1
end Go.Proofs.YtbolhfegdocpeaaGreat.Ow
namespace Go.Proofs.YtbolhfegdocpeaaGreat.Ow
open Go
set_option linter.unusedVariables false
set_option linter.unusedSimpArgs false
set_option maxHeartbeats 4000000
variable {PK:Nat->List Arg->Option Res}
def blk (s:StoreD) (i k:Nat):List Int:=if(nd s.w i).image.getD k 0=0 then List.replicate 8 0 else s.blocks.getD ((nd s.w i).image.getD k 0 - 1).toNat []
def blockAt (s:StoreD) (a c:Int):List Int:=if storeOk s&&inB a 0 2&&inB c 0 7 then blk s a.toNat c.toNat else []
theorem blk_facts {s:StoreD} (h:storeOk s=true) {i k:Nat} (hi:i<3) (hk:k<8): ∃ (x:NodeD) (v:Int) (y1:i<s.w.nodes.length) (z1:k<x.image.length),s.w.nodes[i]=x/\nd s.w i=x/\x∈s.w.nodes/\x.image[k]=v/\x.image.getD k 0=v/\0<=v/\
  (v≠0-> ∃ (m:Nat) (b:List Int) (q1:m<s.blocks.length),v - 1=m/\s.blocks[m]=b/\s.blocks.getD m []=b/\b∈s.blocks/\b.length=8):=by
 have hN:=worldOk_nodes (storeOk_w h)
 obtain⟨x,y1,hx,hx',hxd,hxm⟩:=get_ex s.w.nodes zN (j:=i) (by rw[hN.len];omega)
 have nx:=hN.ok i hi
 have hnd:nd s.w i=x:=hxd
 rw[hnd]at nx
 obtain⟨v,z1,hv,hv',hvd,hvm⟩:=get_ex x.image 0 (j:=k) (by rw[nx.img8];omega)
 have hb:=nx.imgB v hvm
 refine⟨x,v,y1,z1,hx',hnd,hxm,hv',hvd,hb.1,fun hne=> ?_⟩
 have hw:=storeOk_w h
 unfold storeOk at h
 simp only[Bool.and_eq_true,decide_eq_true_iff]at h
 unfold worldOk at hw
 simp only[Bool.and_eq_true]at hw
 have hP:=allB_get hw.1.1.1.2 hi
 unfold nodeP at hP
 simp only[Bool.and_eq_true,hnd]at hP
 have hI:=allB_get hP.2 hk
 unfold imgP at hI
 rw[hvd,decide_eq_true_iff]at hI
 obtain⟨b,q1,_,hb',hbd,hbm⟩:=get_ex s.blocks [] (j:=(v - 1).toNat) (by rw[h.1.2];omega)
 have h8:=List.all_eq_true.1 h.2 b hbm
 unfold blkOk at h8
 rw[decide_eq_true_iff]at h8
 exact⟨_,b,q1,by omega,hb',hbd,hbm,h8⟩
theorem blk_len {s:StoreD} (h:storeOk s=true) {i k:Nat} (hi:i<3) (hk:k<8):(blk s i k).length=8:=by
 obtain⟨x,v,y1,z1,hx',hnd,hxm,hv',hvd,h0,hb⟩:=blk_facts h hi hk
 unfold blk
 rw[hnd,hvd]
 split
 ·simp
 ·rename_i hne
  obtain⟨m,b,q1,hm,hb',hbd,hbm,h8⟩:=hb hne
  rw[hm,Int.toNat_natCast,hbd,h8]
theorem ev_spec_BlockNew:semK G PK md 81 []=some ⟨[.v (.own 1 (enc fU (List.replicate 8 0)))],[],[]⟩:=by
 refine semK_of (pf:=p81) rfl (by simp[p81]) ?_
 simp[p81,enc]
theorem ev_impl_BlockNew:semK G PK md 109 []=some ⟨[.v (.own 1 (enc fU (List.replicate 8 0)))],[],[]⟩:=by
 refine semK_of (pf:=p109) rfl (by simp[p109]) ?_
 simp[p109,enc]
theorem ev_spec_BlockAt (s:StoreD) (a c:Int) (hs:stS s):semK G PK md 33 [.a (lents (fSt s)),.v (.sc (.int .i64 a)),.v (.sc (.int .i64 c))]=some ⟨[.v (.own 1 (enc fU (blockAt s a c)))],[],[]⟩:=by
 refine semK_of (pf:=p33) rfl (by simp[p33]) ?_
 have e:=ev_spec_StoreOk (PK:=PK) s hs
 have e1:=ev_l1In (PK:=PK) a 0 2
 have e2:=ev_l1In (PK:=PK) c 0 7
 have e3:=ev_spec_BlockNew (PK:=PK)
 simp only[lents,lent,fSt]at e
 unfold blockAt
 cases hok:storeOk s
 ·rw[hok]at e
  simp[p33,md,e]
 rw[hok]at e
 cases ha:inB a 0 2
 ·rw[ha]at e1
  simp[p33,md,e,e1]
 rw[ha]at e1
 cases hc:inB c 0 7
 ·rw[hc]at e2
  simp[p33,md,e,e1,e2]
 rw[hc]at e2
 have ra:=inB_iff.1 ha
 have rc:=inB_iff.1 hc
 obtain⟨i,rfl⟩: ∃i:Nat,a=(i:Int):=⟨a.toNat,by omega⟩
 obtain⟨k,rfl⟩: ∃k:Nat,c=(k:Int):=⟨c.toNat,by omega⟩
 obtain⟨x,v,y1,z1,hx',hnd,hxm,hv',hvd,h0,hb⟩:=blk_facts hok (i:=i) (k:=k) (by omega) (by omega)
 unfold blk
 simp only[Int.toNat_natCast,hnd,hvd]
 by_cases hv0:v=0
 ·simp[p33,md,e,e1,e2,e3,y1,hx',z1,hv',hv0]
 ·obtain⟨m,b,q1,hm,hb',hbd,hbm,h8⟩:=hb hv0
  have hw:IntKind.wrap .i64 (m:Int)=m:=wrap_id (by omega) (by have:=hs.blocks;omega)
  simp[p33,md,e,e1,e2,e3,y1,hx',z1,hv',hv0,hm,hw,q1,hb',hbd,h8]
theorem ev_block (hCU: ∀l:List Int,l.length<=1048576->semK G PK md 77 [.v (.im 1 (enc fU l))]=some ⟨[.v (.own 1 (enc fU l))],[],[]⟩) (s:StoreD) (i k:Nat) (hs:stS s) (hok:storeOk s=true) (hi:i<3) (hk:k<8):semK G PK md 74 [.a (lents (fSt s)),.v (.sc (.int .i64 i)),.v (.sc (.int .i64 k))]=some ⟨[.v (.own 1 (enc fU (blk s i k)))],[],[]⟩:=by
 refine semK_of (pf:=p74) rfl (by simp[p74]) ?_
 have e3:=ev_impl_BlockNew (PK:=PK)
 obtain⟨x,v,y1,z1,hx',hnd,hxm,hv',hvd,h0,hb⟩:=blk_facts hok (i:=i) (k:=k) (by omega) (by omega)
 unfold blk
 simp only[hnd,hvd]
 by_cases hv0:v=0
 ·simp[p74,md,e3,y1,hx',z1,hv',hv0]
 ·obtain⟨m,b,q1,hm,hb',hbd,hbm,h8⟩:=hb hv0
  have hw:IntKind.wrap .i64 (m:Int)=m:=wrap_id (by omega) (by have:=hs.blocks;omega)
  have e4:=hCU b (by omega)
  simp[p74,md,y1,hx',z1,hv',hv0,hm,hw,q1,hb',hbd,e4]
theorem ev_impl_BlockAt (hCU: ∀l:List Int,l.length<=1048576->semK G PK md 77 [.v (.im 1 (enc fU l))]=some ⟨[.v (.own 1 (enc fU l))],[],[]⟩) (s:StoreD) (a c:Int) (hs:stS s):semK G PK md 29 [.a (lents (fSt s)),.v (.sc (.int .i64 a)),.v (.sc (.int .i64 c))]=some ⟨[.v (.own 1 (enc fU (blockAt s a c)))],[],[]⟩:=by
 refine semK_of (pf:=p29) rfl (by simp[p29]) ?_
 have e:=ev_impl_StoreOk (PK:=PK) s hs
 have e1:=ev_isNode (PK:=PK) a
 have e2:=ev_isCell (PK:=PK) c
 simp only[lents,lent,fSt]at e
 unfold blockAt
 cases hok:storeOk s
 ·rw[hok]at e
  simp[p29,md,e]
 rw[hok]at e
 cases ha:inB a 0 2
 ·rw[ha]at e1
  simp[p29,md,e,e1]
 rw[ha]at e1
 cases hc:inB c 0 7
 ·rw[hc]at e2
  simp[p29,md,e,e1,e2]
 rw[hc]at e2
 have ra:=inB_iff.1 ha
 have rc:=inB_iff.1 hc
 obtain⟨i,rfl⟩: ∃i:Nat,a=(i:Int):=⟨a.toNat,by omega⟩
 obtain⟨k,rfl⟩: ∃k:Nat,c=(k:Int):=⟨c.toNat,by omega⟩
 have e3:=ev_block (PK:=PK) hCU s i k hs hok (by omega) (by omega)
 simp only[lents,lent,fSt]at e3
 simp[p29,md,e,e1,e2,e3]
end Go.Proofs.YtbolhfegdocpeaaGreat.Ow
namespace Go.Proofs.YtbolhfegdocpeaaGreat.Ow
open Go
set_option linter.unusedVariables false
set_option linter.unusedSimpArgs false
set_option maxHeartbeats 4000000
variable {PK:Nat->List Arg->Option Res}
def all8 (s:StoreD) (i j:Nat):List Int:=((List.range j).map (blk s i)).flatten
theorem all8_succ (s:StoreD) (i j:Nat):all8 s i (j+1)=all8 s i j++blk s i j:=by unfold all8;simp[List.range_succ]
theorem all8_len {s:StoreD} (h:storeOk s=true) {i:Nat} (hi:i<3): ∀j,j<=8->(all8 s i j).length=8*j
 |0,_=>rfl
 |j+1,hj=>by
  rw[all8_succ,List.length_append,all8_len h hi j (by omega),blk_len h hi (by omega)]
  omega
theorem all8_take {s : StoreD} (h : storeOk s = true) {i : Nat} (hi : i < 3) : ∀ d j, j + d <= 8 -> (all8 s i (j + d)).take (8 * j) = all8 s i j
  | 0, j, hj => by rw [List.take_of_length_le]; · rfl
                   · rw [all8_len h hi _ hj]; omega
  | d + 1, j, hj => by
    rw [← Nat.add_assoc, all8_succ, List.take_append_of_le_length (by rw [all8_len h hi _ (by omega)]; omega), all8_take h hi d j (by omega)]
def getB (s:StoreD) (i f n:Nat):List Int:=((all8 s i 8).take (f+n)).drop f
def inVol (f n:Int):Bool:=inB f 0 63&&inB n 1 (64 - f)
def getBytes (s:StoreD) (a f n:Int):List Int×Int:=
 if storeOk s then
  if inVol f n&&inB a 0 2 then
   if(nd s.w a.toNat).prime then(getB s a.toNat f.toNat n.toNat,0)else([],3)
  else([],2)
 else([],1)
def outB (s:StoreD) (i f n c:Nat):List Int:=((all8 s i 8).take (min (f+n) (8*c))).drop f
theorem outB_first (s:StoreD) (i f n c:Nat) (h:8*c<=f):outB s i f n c=[]:=by
 unfold outB
 rw[List.drop_eq_nil_iff,List.length_take]
 omega
theorem outB_last (s:StoreD) (i f n c:Nat) (h:f+n<=8*c):outB s i f n c=getB s i f n:=by
 unfold outB getB
 rw[Nat.min_eq_left h]
theorem outB_step {s:StoreD} (h:storeOk s=true) {i f n c:Nat} (hi:i<3) (hc:c<8) (h1:8*c<f+n) (h2:f<8*(c+1)) (first last:Nat) (hf:first=max f (8*c)) (hl:last=min (f+n) (8*(c+1))):
  outB s i f n c++((blk s i c).take (first - 8*c+(last - first))).drop (first - 8*c)=outB s i f n (c+1):=by
 have hA:=all8_take h hi (8 - c) c (by omega)
 have hB:=all8_take h hi (8 - (c+1)) (c+1) (by omega)
 rw[show c+(8 - c)=8 by omega]at hA
 rw[show c+1+(8 - (c+1))=8 by omega]at hB
 have hlc:=all8_len h hi c (by omega)
 have hbl:=blk_len h hi hc
 unfold outB
 rw[Nat.min_eq_right (by omega:8*c<=f+n),hA,←hl]
 have h3:(all8 s i 8).take last=all8 s i c++(blk s i c).take (last - 8*c):=by
  have:(all8 s i 8).take last=((all8 s i 8).take (8*(c+1))).take last:=by rw[List.take_take,Nat.min_eq_left (by omega)]
  rw[this,hB,all8_succ,List.take_append,hlc,List.take_of_length_le (by rw[hlc];omega)]
 have q1:first - 8*c=f - 8*c:=by omega
 have q2:f - 8*c+(last - first)=last - 8*c:=by omega
 rw[h3,List.drop_append,hlc,q1,q2]
theorem ev_inVolume (f n:Int):semK G PK md 76 [.v (.sc (.int .i64 f)),.v (.sc (.int .i64 n))]=some ⟨[.v (.sc (.bool (inVol f n)))],[],[]⟩:=by
 refine semK_of (pf:=p76) rfl (by simp[p76]) ?_
 have e1:=ev_from (PK:=PK) f 0 63
 unfold inVol
 cases h:inB f 0 63
 ·rw[h]at e1
  simp[p76,md,e1]
 ·rw[h]at e1
  have r:=inB_iff.1 h
  have hw:IntKind.wrap .i64 (64 - f)=64 - f:=wrap_id (by omega) (by omega)
  have e2:=ev_from (PK:=PK) n 1 (64 - f)
  simp[p76,md,e1,e2,hw]
theorem ev_l23In (f n:Int):semK G PK md 78 [.v (.sc (.int .i64 f)),.v (.sc (.int .i64 n))]=some ⟨[.v (.sc (.bool (inVol f n)))],[],[]⟩:=by
 refine semK_of (pf:=p78) rfl (by simp[p78]) ?_
 have e1:=ev_l1In (PK:=PK) f 0 63
 have e2:=ev_l1In (PK:=PK) n 1 64
 have w63:IntKind.wrap .i64 63=63:=rfl
 unfold inVol
 cases h:inB f 0 63
 ·rw[h]at e1
  simp[p78,md,e1,w63]
 rw[h]at e1
 have r:=inB_iff.1 h
 cases h2:inB n 1 64
 ·have h3:inB n 1 (64 - f)=false:=by
   cases h4:inB n 1 (64 - f)
   ·rfl
   ·have r4:=inB_iff.1 h4
    rw[inB_iff.2 ⟨r4.1,by omega⟩]at h2
    cases h2
  rw[h2]at e2
  simp[p78,md,e1,w63,e2,h3]
 ·rw[h2]at e2
  have r2:=inB_iff.1 h2
  have hw:IntKind.wrap .i64 (f+n)=f+n:=wrap_id (by omega) (by omega)
  by_cases hle:f+n<=64
  ·have h3:inB n 1 (64 - f)=true:=inB_iff.2 ⟨r2.1,by omega⟩
   simp[p78,md,e1,w63,e2,hw,hle,h3]
  ·have h3:inB n 1 (64 - f)=false:=by
    cases h4:inB n 1 (64 - f)
    ·rfl
    ·have r4:=inB_iff.1 h4
     omega
   simp[p78,md,e1,w63,e2,hw,hle,h3]
@[simp] def st31 (s:StoreD) (i:Nat) (f n:Int) (j:Nat):St:={n:=53,m:=0,tm:=[(1,.sc (.int .i64 i)),(2,.sc (.int .i64 f)),(3,.sc (.int .i64 n)),(4,.pb 10000100 0),(10,.ref 10000101 []),(36,.sc (.int .i64 j))],ob:=[(10000100,sbox s),(10000101,.arr 1 (enc fU (all8 s i j)))]}
theorem ev_impl_GetBytes (hCU: ∀l:List Int,l.length<=1048576->semK G PK md 77 [.v (.im 1 (enc fU l))]=some ⟨[.v (.own 1 (enc fU l))],[],[]⟩) (s:StoreD) (a f n:Int) (hs:stS s):semK G PK md 31 [.a (lents (fSt s)),.v (.sc (.int .i64 a)),.v (.sc (.int .i64 f)),.v (.sc (.int .i64 n))]=some ⟨[.v (.own 1 (enc fU (getBytes s a f n).1)),.v (.sc (.int .i64 (getBytes s a f n).2))],[],[]⟩:=by
 refine semK_of (pf:=p31) rfl (by simp[p31]) ?_
 have e:=ev_impl_StoreOk (PK:=PK) s hs
 have e1:=ev_inVolume (PK:=PK) f n
 have e2:=ev_isNode (PK:=PK) a
 simp only[lents,lent,fSt]at e
 unfold getBytes
 cases hok:storeOk s
 ·rw[hok]at e
  simp[p31,md,e]
 rw[hok]at e
 cases hv:inVol f n
 ·rw[hv]at e1
  simp[p31,md,e,e1]
 rw[hv]at e1
 cases ha:inB a 0 2
 ·rw[ha]at e2
  simp[p31,md,e,e1,e2]
 rw[ha]at e2
 have ra:=inB_iff.1 ha
 obtain⟨i,rfl⟩: ∃i:Nat,a=(i:Int):=⟨a.toNat,by omega⟩
 have hi:i<3:=by omega
 have hN:=worldOk_nodes (storeOk_w hok)
 obtain⟨x,y1,hx,hx',hxd,hxm⟩:=get_ex s.w.nodes zN (j:=i) (by rw[hN.len];omega)
 have hnd:nd s.w i=x:=hxd
 simp only[Int.toNat_natCast,hnd]
 cases hp:x.prime
 ·simp[p31,md,e,e1,e2,y1,hx',hp]
 unfold inVol at hv
 rw[Bool.and_eq_true]at hv
 have r1:=inB_iff.1 hv.1
 have r2:=inB_iff.1 hv.2
 obtain⟨k,rfl⟩: ∃k:Nat,f=(k:Int):=⟨f.toNat,by omega⟩
 obtain⟨m,rfl⟩: ∃m:Nat,n=(m:Int):=⟨n.toNat,by omega⟩
 have hsz:=loop_ok (G:=G) (PK:=PK) (md:=md) (o:=10000100) (live:=[1,2,3,4,10,36]) (c:=b31_0) (st31 s i k m) (8) (fun j hj=>by
  have hj8:((j:Nat):Int)<8:=by omega
  have hinc:=incr (n:=8) (j:=j) (by omega) (by omega)
  have e3:=ev_block (PK:=PK) hCU s i j hs hok hi hj
  simp only[lents,lent,fSt]at e3
  have hl:=all8_len hok hi j (by omega)
  have hb:=blk_len hok hi hj
  have hlim:(all8 s i j).length+(blk s i j).length<=35184372088832:=by omega
  simp[b31_0,md,hj8,e3,hinc,hlim,enc_append,all8_succ]) (by simp[b31_0])
 have hw:IntKind.wrap .i64 ((k:Int)+m)=((k+m:Nat):Int):=by rw[wrap_id (by omega) (by omega)];rfl
 obtain⟨q,hq⟩: ∃q,q=k+m:=⟨_,rfl⟩
 rw[←hq]at hw
 have hl8:=all8_len hok hi 8 (by omega)
 have hwin:List.drop k (List.take q (enc fU (all8 s i 8)))=enc fU (getB s i k m):=by unfold getB;rw[enc_take,enc_drop,hq]
 have g1:k<=q:=by omega
 have g2:q<=(all8 s i 8).length:=by rw[hl8];omega
 have g3:(getB s i k m).length<=1048576:=by unfold getB;rw[List.length_drop,List.length_take];omega
 have e4:=hCU (getB s i k m) g3
 simp[p31,md,e,e1,e2,y1,hx',hp]
 rw[hsz]
 ·simp[b31_0,md,hw,g1,g2,hwin,e4]
 ·simp
 ·simp[all8]
theorem ev_l1Max (a b:Int):semK G PK md 110 [.v (.sc (.int .i64 a)),.v (.sc (.int .i64 b))]=some ⟨[.v (.sc (.int .i64 (if b<a then a else b)))],[],[]⟩:=by
 refine semK_of (pf:=p110) rfl (by simp[p110]) ?_
 by_cases h:b<a<;>simp[p110,h]
theorem ev_l1Min (a b:Int):semK G PK md 111 [.v (.sc (.int .i64 a)),.v (.sc (.int .i64 b))]=some ⟨[.v (.sc (.int .i64 (if a<b then a else b)))],[],[]⟩:=by
 refine semK_of (pf:=p111) rfl (by simp[p111]) ?_
 by_cases h:a<b<;>simp[p111,h]
theorem ev_l23Part (c f n first last:Nat) (hc:c<=8) (hfn:f+n<=64) (hf:first=max f (8*c)) (hl:last=min (f+n) (8*(c+1))):semK G PK md 79 [.v (.sc (.int .i64 c)),.v (.sc (.int .i64 f)),.v (.sc (.int .i64 n))]=
  some ⟨[.v (.sc (.int .i64 ((first:Int) - (8*c:Nat)))),.v (.sc (.int .i64 ((first:Int) - f))),.v (.sc (.int .i64 ((last:Int) - f)))],[],[]⟩:=by
 refine semK_of (pf:=p79) rfl (by simp[p79]) ?_
 have w1:IntKind.wrap .i64 ((c:Int)*8)=((8*c:Nat):Int):=by rw[wrap_id (by omega) (by omega)];omega
 have w2:IntKind.wrap .i64 ((f:Int)+n)=((f+n:Nat):Int):=by rw[wrap_id (by omega) (by omega)];omega
 have w3:IntKind.wrap .i64 ((c:Int)+1)=((c+1:Nat):Int):=by rw[wrap_id (by omega) (by omega)];omega
 have w4:IntKind.wrap .i64 (((c+1:Nat):Int)*8)=((8*(c+1):Nat):Int):=by rw[wrap_id (by omega) (by omega)];omega
 have e1:=ev_l1Max (PK:=PK) f (8*c:Nat)
 have e2:=ev_l1Min (PK:=PK) (f+n:Nat) (8*(c+1):Nat)
 have v1:(if((8*c:Nat):Int)<f then(f:Int)else((8*c:Nat):Int))=first:=by split<;>omega
 have v2:(if((f+n:Nat):Int)<((8*(c+1):Nat):Int)then((f+n:Nat):Int)else((8*(c+1):Nat):Int))=last:=by split<;>omega
 rw[v1]at e1
 rw[v2]at e2
 have w5:IntKind.wrap .i64 ((first:Int) - (8*c:Nat))=(first:Int) - (8*c:Nat):=wrap_id (by omega) (by omega)
 have w6:IntKind.wrap .i64 ((first:Int) - f)=(first:Int) - f:=wrap_id (by omega) (by omega)
 have w7:IntKind.wrap .i64 ((last:Int) - f)=(last:Int) - f:=wrap_id (by omega) (by omega)
 generalize ((8*c:Nat):Int)=A at w1 e1 w5 ⊢
 generalize ((8*(c+1):Nat):Int)=B at w4 e2
 generalize ((c+1:Nat):Int)=C at w3 w4
 generalize ((f+n:Nat):Int)=D at w2 e2
 simp[p79,md,w1,w2,w3,w4,e1,e2,w5,w6,w7]
theorem ev_spec_BlockGet (b:List Int) (at_ n:Nat) (hb:b.length=8) (h:at_+n<=8):semK G PK md 80 [.v (.im 1 (enc fU b)),.v (.sc (.int .i64 at_)),.v (.sc (.int .i64 n))]=some ⟨[.v (.own 1 (enc fU ((b.take (at_+n)).drop at_)))],[],[]⟩:=by
 refine semK_of (pf:=p80) rfl (by simp[p80]) ?_
 have e:=ev_spec_BlockOk (PK:=PK) b
 have hbo:blkOk b=true:=by unfold blkOk;rw[hb];rfl
 rw[hbo]at e
 have h1: ¬ (8:Int)<at_:=by omega
 have h2:IntKind.wrap .i64 ((8:Int) - at_)=8 - at_:=wrap_id (by omega) (by omega)
 have h3: ¬ (8:Int) - at_<n:=by omega
 have h4:IntKind.wrap .i64 ((at_:Int)+n)=((at_+n:Nat):Int):=by rw[wrap_id (by omega) (by omega)];rfl
 obtain⟨q,hq⟩: ∃q,q=at_+n:=⟨_,rfl⟩
 rw[←hq]at h4 ⊢
 have hwin:List.drop at_ (List.take q (enc fU b))=enc fU ((b.take q).drop at_):=by rw[enc_take,enc_drop]
 have g1:at_<=q:=by omega
 have g2:q<=8:=by omega
 have g3:((b.take q).drop at_).length<=35184372088832:=by rw[List.length_drop,List.length_take];omega
 have n1: ¬ (at_:Int)<0:=by omega
 have n2: ¬ (n:Int)<0:=by omega
 have g4:q<=35184372088832+at_:=by omega
 simp[p80,md,e,hb,h1,h2,h3,h4,n1,n2,g1,g2,hwin,g3,g4]
@[simp] def st32' (s:StoreD) (i:Nat) (f n:Int) (out:List Int) (c:Nat):St:={n:=73,m:=0,tm:=[(1,.sc (.int .i64 i)),(2,.sc (.int .i64 f)),(3,.sc (.int .i64 n)),(4,.pb 10000100 0),(10,.ref 10000101 []),(11,.sc (.int .i64 c))],ob:=[(10000100,sbox s),(10000101,.arr 1 (enc fU out))]}
theorem ev_spec_GetBytes (s:StoreD) (a f n:Int) (hs:stS s):semK G PK md 32 [.a (lents (fSt s)),.v (.sc (.int .i64 a)),.v (.sc (.int .i64 f)),.v (.sc (.int .i64 n))]=some ⟨[.v (.own 1 (enc fU (getBytes s a f n).1)),.v (.sc (.int .i64 (getBytes s a f n).2))],[],[]⟩:=by
 refine semK_of (pf:=p32) rfl (by simp[p32]) ?_
 have e:=ev_spec_StoreOk (PK:=PK) s hs
 have e1:=ev_l23In (PK:=PK) f n
 have e2:=ev_l1In (PK:=PK) a 0 2
 simp only[lents,lent,fSt]at e
 unfold getBytes
 cases hok:storeOk s
 ·rw[hok]at e
  simp[p32,md,e]
 rw[hok]at e
 cases hv:inVol f n
 ·rw[hv]at e1
  simp[p32,md,e,e1]
 rw[hv]at e1
 cases ha:inB a 0 2
 ·rw[ha]at e2
  simp[p32,md,e,e1,e2]
 rw[ha]at e2
 have ra:=inB_iff.1 ha
 obtain⟨i,rfl⟩: ∃i:Nat,a=(i:Int):=⟨a.toNat,by omega⟩
 have hi:i<3:=by omega
 have hN:=worldOk_nodes (storeOk_w hok)
 obtain⟨x,y1,hx,hx',hxd,hxm⟩:=get_ex s.w.nodes zN (j:=i) (by rw[hN.len];omega)
 have hnd:nd s.w i=x:=hxd
 simp only[Int.toNat_natCast,hnd]
 cases hp:x.prime
 ·simp[p32,md,e,e1,e2,y1,hx',hp]
 unfold inVol at hv
 rw[Bool.and_eq_true]at hv
 have r1:=inB_iff.1 hv.1
 have r2:=inB_iff.1 hv.2
 obtain⟨k,rfl⟩: ∃k:Nat,f=(k:Int):=⟨f.toNat,by omega⟩
 obtain⟨m,rfl⟩: ∃m:Nat,n=(m:Int):=⟨n.toNat,by omega⟩
 have hw:IntKind.wrap .i64 ((k:Int)+m)=(k:Int)+m:=wrap_id (by omega) (by omega)
 have hw2:IntKind.wrap .i64 ((k:Int)+m - 1)=(k:Int)+m - 1:=wrap_id (by omega) (by omega)
 obtain⟨c1,hc1⟩: ∃c1:Nat,c1=(k+m - 1) / 8:=⟨_,rfl⟩
 have hd1:((k:Int)+m - 1).tdiv 8=(c1:Int):=by
  rw[Int.tdiv_eq_ediv_of_nonneg (by omega)]
  omega
 have hw3:IntKind.wrap .i64 (c1:Int)=c1:=wrap_id (by omega) (by omega)
 obtain⟨c0,hc0⟩: ∃c0:Nat,c0=k / 8:=⟨_,rfl⟩
 have hd0:((k:Nat):Int).tdiv 8=(c0:Int):=by
  rw[Int.tdiv_eq_ediv_of_nonneg (by omega)]
  omega
 have hw4:IntKind.wrap .i64 (c0:Int)=c0:=wrap_id (by omega) (by omega)
 obtain⟨cf,hcf⟩: ∃cf:Nat->Nat,∀j,cf j=c0+j:=⟨_,fun _=>rfl⟩
 have hcf0:cf 0=c0:=by rw[hcf];rfl
 have hend: ¬cf (c1+1 - c0)<=c1:=by rw[hcf];omega
 have hsz:=loop_ok (G:=G) (PK:=PK) (md:=md) (o:=10000100) (live:=[1,2,3,4,10,11]) (c:=b32_0) (fun j=>st32' s i k m (outB s i k m (cf j)) (cf j)) (c1+1 - c0) (fun j hj=>by
  have hj1:=hcf j
  have hj2:cf (j+1)=cf j+1:=by rw[hcf,hcf];omega
  simp only[hj2]
  generalize cf j=c at hj1 ⊢
  have hcc:c<=c1:=by omega
  have hinc:IntKind.wrap .i64 ((c:Int)+1)=((c+1:Nat):Int):=by rw[wrap_id (by omega) (by omega)];rfl
  obtain⟨first,hf⟩: ∃first,first=max k (8*c):=⟨_,rfl⟩
  obtain⟨last,hl⟩: ∃last,last=min (k+m) (8*(c+1)):=⟨_,rfl⟩
  have e3:=ev_l23Part (PK:=PK) c k m first last (by omega) (by omega) hf hl
  have e4:=ev_spec_BlockAt (PK:=PK) s i c hs
  have hba:blockAt s i c=blk s i c:=by
   unfold blockAt
   rw[hok,ha,inB_iff.2 ⟨by omega,by omega⟩]
   rfl
  rw[hba]at e4
  have w1:IntKind.wrap .i64 (((last:Int) - k) - ((first:Int) - k))=((last - first:Nat):Int):=by rw[wrap_id (by omega) (by omega)];omega
  have w2:((first:Int) - (8*c:Nat))=((first - 8*c:Nat):Int):=by omega
  rw[w2]at e3
  have hbl:=blk_len hok hi (k:=c) (by omega)
  have e5:=ev_spec_BlockGet (PK:=PK) (blk s i c) (first - 8*c) (last - first) hbl (by omega)
  have hstep:=outB_step hok (f:=k) (n:=m) hi (c:=c) (by omega) (by omega) (by omega) first last hf hl
  rw[←hstep]
  simp only[lents,lent,fSt]at e4
  have hlo:(outB s i k m c).length<=64:=by unfold outB;rw[List.length_drop,List.length_take];omega
  generalize outB s i k m c=out at hlo ⊢
  generalize hP:((blk s i c).take (first - 8*c+(last - first))).drop (first - 8*c)=P at e5 ⊢
  have hlp:P.length<=8:=by rw[←hP,List.length_drop,List.length_take];omega
  have hlim:out.length+P.length<=35184372088832:=by omega
  generalize ((first - 8*c:Nat):Int)=A at e3 e5
  generalize ((last - first:Nat):Int)=B at w1 e5
  generalize (last:Int) - k=D1 at e3 w1
  generalize (first:Int) - k=D2 at e3 w1
  simp[b32_0,md,hw,hw2,hd1,hw3,hcc,e3,e4,w1,e5,hlim,enc_append,hinc]) (by simp[b32_0,hw,hw2,hd1,hw3,hend])
 have h0:=outB_first s i k m c0 (by omega)
 have hlast:=outB_last s i k m (cf (c1+1 - c0)) (by rw[hcf];omega)
 simp[p32,md,e,e1,e2,y1,hx',hp,hd0,hw4]
 rw[hsz]
 ·rw[hlast]
  simp[b32_0,hw,hw2,hd1,hw3,hend]
 ·simp
 ·simp[hcf0,h0]
end Go.Proofs.YtbolhfegdocpeaaGreat.Ow
