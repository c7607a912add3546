/- FnVolumes: evaluated. -/
import Derived.Test.YtbolhfegdocpeaaGreatEvS2
namespace Go.Proofs.YtbolhfegdocpeaaGreat.Ow
open Go
set_option linter.unusedVariables false
set_option linter.unusedSimpArgs false
set_option maxHeartbeats 16000000
variable {PK:Nat->List Arg->Option Res}
theorem ev_DrawBlockAt (b:List Int) (hb:byt b): ∃s a q,SD s/\semK G PK md 28 [.v (.im 1 (enc fU b))]=some ⟨[.a (owneds (fSt s)),.v (.sc (.int .i64 a)),.v (.sc (.int .i64 q))],[],[]⟩:=by
 obtain⟨c,hc,e0⟩:=ev_l1New (PK:=PK) b hb
 obtain⟨s,c1,hs,k1,e1⟩:=ev_l23Draw (PK:=PK) b c hb hc
 obtain⟨x,c2,hx,_,k2,e2⟩:=ev_l1Below (PK:=PK) b c1 5 hb k1 (by omega)
 obtain⟨y,c3,hy,_,k3,e3⟩:=ev_l1Below (PK:=PK) b c2 10 hb k2 (by omega)
 have hx:=hx (by omega)
 have hy:=hy (by omega)
 have w1:IntKind.wrap .i64 (x - 1)=x - 1:=wrap_id (by omega) (by omega)
 have w2:IntKind.wrap .i64 (y - 1)=y - 1:=wrap_id (by omega) (by omega)
 simp only[cur,owneds,owned,fSt,fWo]at e0 e1 e2 e3
 refine⟨s,x - 1,y - 1,hs,semK_of (pf:=p28) rfl (by simp[p28]) ?_⟩
 simp (config:={maxSteps:=10000000}) [p28,md,e0,e1,e2,e3,w1,w2,Alike2]
theorem ev_DrawGetBytes (b:List Int) (hb:byt b): ∃s a f n,SD s/\semK G PK md 30 [.v (.im 1 (enc fU b))]=some ⟨[.a (owneds (fSt s)),.v (.sc (.int .i64 a)),.v (.sc (.int .i64 f)),.v (.sc (.int .i64 n))],[],[]⟩:=by
 obtain⟨c,hc,e0⟩:=ev_l1New (PK:=PK) b hb
 obtain⟨s,c1,hs,k1,e1⟩:=ev_l23Draw (PK:=PK) b c hb hc
 obtain⟨p,_,e2⟩:=ev_l12Prime (PK:=PK) s.w
 obtain⟨g,c2,k2,e3⟩:=ev_l1Once (PK:=PK) b c1 5 hb k1 (by omega)
 simp only[cur,lents,lent,owneds,owned,fSt,fWo]at e0 e1 e2 e3
 cases g
 ·obtain⟨f,c3,_,k3,e4⟩:=ev_l1PickInt (PK:=PK) b c2 [0,3,7,8,50,63,64,-1,9223372036854775807] hb k2 (by simp) (by simp)
  obtain⟨n,c4,_,k4,e5⟩:=ev_l1PickInt (PK:=PK) b c3 [1,5,8,20,64,0,65,-1,9223372036854775807] hb k3 (by simp) (by simp)
  simp only[cur,enc_cons,enc_nil,fI]at e4 e5
  refine⟨s,p,f,n,hs,semK_of (pf:=p30) rfl (by simp[p30]) ?_⟩
  simp (config:={maxSteps:=10000000}) [p30,md,e0,e1,e2,e3,e4,e5,Alike2]
 ·obtain⟨x,c3,hx,_,k3,e4⟩:=ev_l1Below (PK:=PK) b c2 5 hb k2 (by omega)
  have hx:=hx (by omega)
  have w1:IntKind.wrap .i64 (x - 1)=x - 1:=wrap_id (by omega) (by omega)
  obtain⟨f,c4,_,k4,e5⟩:=ev_l1PickInt (PK:=PK) b c3 [0,3,7,8,50,63,64,-1,9223372036854775807] hb k3 (by simp) (by simp)
  obtain⟨n,c5,_,k5,e6⟩:=ev_l1PickInt (PK:=PK) b c4 [1,5,8,20,64,0,65,-1,9223372036854775807] hb k4 (by simp) (by simp)
  simp only[cur,enc_cons,enc_nil,fI]at e4 e5 e6
  refine⟨s,x - 1,f,n,hs,semK_of (pf:=p30) rfl (by simp[p30]) ?_⟩
  simp (config:={maxSteps:=10000000}) [p30,md,e0,e1,e2,e3,e4,e5,e6,w1,Alike2]
@[simp] def st5 (s:StoreD) (a f n:Int) (x out:List Int) (j:Nat):St:={n:=104,m:=0,tm:=[(7,.pb 10000000 0),(8,.sc (.int .i64 a)),(9,.sc (.int .i64 f)),(10,.sc (.int .i64 n)),(11,.ref 10000001 []),(15,.ref 10000002 []),(16,.sc (.int .i64 j))],ob:=[(10000000,.box [.ref 10000003 [],.ref 10000004 [],.ref 10000005 [],.ref 10000006 [],.sc (.int .i64 s.w.gen),.ref 10000007 []]),(10000001,.arr 1 (enc fU x)),(10000002,.arr 1 (enc fU out)),(10000003,.arr 16 (enc fN s.w.nodes)),(10000004,.arr 3 (enc fW s.w.net)),(10000005,.arr 2 (enc fR s.w.log)),(10000006,.arr 1 (enc fI s.w.safe)),(10000007,.arr 1 (enc fUU s.blocks))]}
theorem ev_law (hCU: ∀l:List Int,l.length<=1048576->semK G PK md 77 [.v (.im 1 (enc fU l))]=some ⟨[.v (.own 1 (enc fU l))],[],[]⟩) (x:List Int) (hx:okU x):semK G PK md 5 [.v (.im 1 (enc fU x))]=some ⟨[.v (.sc (.bool true))],[],[]⟩:=by
 refine semK_of (pf:=p5) rfl (by simp[p5]) ?_
 have e0:=ev_big (PK:=PK) x hx.1
 by_cases hbig:1048576<x.length
 ·rw[decide_eq_true hbig]at e0
  simp[p5,md,e0]
 rw[decide_eq_false hbig]at e0
 have hb:=okU_byt hx (by omega)
 obtain⟨s,a,q,hs,e1⟩:=ev_DrawBlockAt (PK:=PK) x hb
 have e2:=ev_impl_BlockAt (PK:=PK) hCU s a q hs.S
 have e3:=ev_spec_BlockAt (PK:=PK) s a q hs.S
 obtain⟨t,i,f,n,ht,e4⟩:=ev_DrawGetBytes (PK:=PK) x hb
 have e5:=ev_impl_GetBytes (PK:=PK) hCU t i f n ht.S
 have e6:=ev_spec_GetBytes (PK:=PK) t i f n ht.S
 have hb1:=bytesOf_enc (blockAt s a q)
 simp only[lents,lent,owneds,owned,fSt,fWo]at e1 e2 e3 e4 e5 e6
 generalize blockAt s a q=bl at*
 have hz:(getBytes t i f n).2≠0/\(getBytes t i f n).1=[]\/(storeOk t=true/\inVol f n=true/\inB i 0 2=true/\getBytes t i f n=(getB t i.toNat f.toNat n.toNat,0)):=by
  unfold getBytes
  split
  ·rename_i h1
   split
   ·rename_i h2
    rw[Bool.and_eq_true]at h2
    split
    ·exact .inr ⟨h1,h2.1,h2.2,rfl⟩
    ·exact .inl ⟨by simp,rfl⟩
   ·exact .inl ⟨by simp,rfl⟩
  ·exact .inl ⟨by simp,rfl⟩
 rcases hz with ⟨h1,h2⟩|⟨hok,hin,hi,hg⟩
 ·rw[h2]at e5 e6
  generalize (getBytes t i f n).2=code at*
  have hb2:=bytesOf_enc []
  simp only[enc_nil]at e5 e6 hb2
  simp (config:={maxSteps:=10000000}) [p5,md,e0,e1,e2,e3,e4,e5,e6,hb1,hb2,h1,Alike2]
 rw[hg]at e5 e6
 simp only at e5 e6
 unfold inVol at hin
 simp only[Bool.and_eq_true]at hin
 have v1:=inB_iff.1 hin.1
 have v2:=inB_iff.1 hin.2
 have v3:=inB_iff.1 hi
 obtain⟨f,rfl⟩: ∃f':Nat,f=f':=⟨f.toNat,by omega⟩
 obtain⟨n,rfl⟩: ∃n':Nat,n=n':=⟨n.toNat,by omega⟩
 obtain⟨k,rfl⟩: ∃k:Nat,i=k:=⟨i.toNat,by omega⟩
 simp only[Int.toNat_natCast]at e5 e6
 have hk:k<3:=by omega
 have hal:=all8_len hok hk
 have hgl:(getB t k f n).length=n:=by
  unfold getB
  rw[List.length_drop,List.length_take,hal 8 (by omega)]
  omega
 have hb2:=bytesOf_enc (getB t k f n)
 have hb3:bytesOf (List.drop f (List.take (f+n) (enc fU (all8 t k 8))))=some (u8s (getB t k f n)):=by
  rw[enc_take,enc_drop]
  exact hb2
 have hal8:=hal 8 (by omega)
 generalize hG:getB t k f n=gb at*
 have hlp:=loop_ok (G:=G) (PK:=PK) (md:=md) (o:=10000000) (live:=[7,8,9,10,11,15,16]) (c:=b5_0) (fun j=>st5 t k f n gb (all8 t k j) j) 8 (fun j hj=>by
  have e7:=ev_impl_BlockAt (PK:=PK) hCU t k j ht.S
  have hbk:blockAt t k j=blk t k j:=by
   unfold blockAt
   rw[hok,hi,inB_iff.2 ⟨by omega,by omega⟩]
   rfl
  rw[hbk]at e7
  have hbl:=blk_len hok hk hj
  have hl:=hal j (by omega)
  have hinc:=incr hj (by omega)
  have hj':(j:Int)<8:=by omega
  have gs:8*j+8<=35184372088832:=by omega
  have happ:enc fU (all8 t k j)++enc fU (blk t k j)=enc fU (all8 t k (j+1)):=by rw[enc_append,←all8_succ]
  simp only[lents,lent,owneds,owned,fSt,fWo]at e7
  simp (config:={maxSteps:=10000000}) [b5_0,md,hj,hj',e7,hbl,hl,gs,happ,hinc]) (by simp[b5_0])
 have w1:IntKind.wrap .i64 ((f:Int)+n)=((f+n:Nat):Int):=by rw[wrap_id (by omega) (by omega)];omega
 have g1:f<=f+n:=by omega
 have g2:f+n<=64:=by omega
 have h00:all8 t k 0=[]:=rfl
 simp (config:={maxSteps:=10000000}) [p5,md,e0,e1,e2,e3,e4,e5,e6,hb1,hb2,Alike2]
 rw[hlp]
 ·generalize hQ:f+n=Q at*
  simp (config:={maxSteps:=10000000}) [b5_0,md,hgl,w1,g1,g2,hal8,hb2,hb3,Alike2]
 ·simp
 ·simp[h00]
end Go.Proofs.YtbolhfegdocpeaaGreat.Ow
