/- What is drawn: worlds, with what is asked of their moments. -/
import Derived.Test.YtbolhfegdocpeaaGreatEv23
import Derived.Test.YtbolhfegdocpeaaGreatEvMoments1
namespace Go.Proofs.YtbolhfegdocpeaaGreat.Ow
open Go
set_option linter.unusedVariables false
set_option linter.unusedSimpArgs false
set_option maxHeartbeats 16000000
variable {PK:Nat->List Arg->Option Res}
theorem bit1 (f:Bool):bit f 1=0\/bit f 1=1:=by cases f<;>simp[bit]
theorem ev_l21Draw (b:List Int) (hb:byt b): ∃w a n,DW w/\(-1<=a/\a<=3000)/\semK G PK md 49 [.v (.im 1 (enc fU b))]=some ⟨[.a (owneds (fWo w)),.v (.sc (.int .i64 a)),.v (.sc (.int .i64 n))],[],[]⟩:=by
 obtain⟨c,hc,e0⟩:=ev_l1New (PK:=PK) b hb
 obtain⟨w,c1,hw,k1,e1⟩:=ev_l12Draw (PK:=PK) b c hb hc
 have hl:=hw.log
 have hwl:IntKind.wrap .i64 ((w.log.length:Int)+2)=w.log.length+2:=wrap_id (by omega) (by omega)
 obtain⟨x,c2,hx,_,k2,e2⟩:=ev_l1Below (PK:=PK) b c1 (w.log.length+2) hb k1 (by omega)
 have hx:=hx (by omega)
 obtain⟨f,c3,k3,e3⟩:=ev_l1Once (PK:=PK) b c2 2 hb k2 (by omega)
 have e4:=ev_l1Bit (PK:=PK) f
 have hf:=bit1 f
 obtain⟨y,c4,_,_,k4,e5⟩:=ev_l1Below (PK:=PK) b c3 (w.log.length+2) hb k3 (by omega)
 simp only[cur,owneds,owned,fWo]at e0 e1 e2 e3 e5
 generalize bit f 1=q at*
 have w1:IntKind.wrap .i64 (x - 1)=x - 1:=wrap_id (by omega) (by omega)
 have w2:IntKind.wrap .i64 (x - 1+q)=x - 1+q:=wrap_id (by omega) (by omega)
 refine⟨w,x - 1+q,y,hw,by omega,semK_of (pf:=p49) rfl (by simp[p49]) ?_⟩
 simp (config:={maxSteps:=10000000}) [p49,md,e0,e1,e2,e3,e4,e5,hwl,w1,w2,Alike2]
theorem ev_DrawSnapAt (b:List Int) (hb:byt b): ∃w a,DW w/\(-1<=a/\a<=3000)/\semK G PK md 8 [.v (.im 1 (enc fU b))]=some ⟨[.a (owneds (fWo w)),.v (.sc (.int .i64 a))],[],[]⟩:=by
 obtain⟨w,a,n,hw,ha,e⟩:=ev_l21Draw (PK:=PK) b hb
 simp only[owneds,owned,fWo]at e
 refine⟨w,a,hw,ha,semK_of (pf:=p8) rfl (by simp[p8]) ?_⟩
 simp (config:={maxSteps:=10000000}) [p8,md,e,Alike2]
structure snD (s:SnapD):Prop where
 len:s.image.length<=9
 img: ∀x∈s.image,i64 x
 last:i64 s.last
theorem imgB.i {m:List Int} (h:imgB m): ∀x∈m,i64 x:=fun x hx=>by have:=h x hx;exact⟨by omega,by omega⟩
theorem putAt_i {m:List Int} {a n:Int} (h: ∀x∈m,i64 x) (hn:i64 n): ∀x∈putAt m a n,i64 x:=fun x hx=>by
 unfold putAt at hx
 split at hx
 ·rcases List.mem_or_eq_of_mem_set hx with hx|rfl
  ·exact h x hx
  ·exact hn
 ·exact h x hx
theorem rstep_i {log:List RecD} (hlog:log.length<=2000) {m:List Int} {n:Int} (h: ∀x∈m,i64 x): ∀x∈rstep log m n,i64 x:=by
 unfold rstep
 split
 ·exact putAt_i h ⟨by omega,by omega⟩
 ·exact h
theorem fold_i {log:List RecD} (hlog:log.length<=2000): ∀ (l m:List Int),(∀x∈m,i64 x)-> ∀x∈l.foldl (rstep log) m,i64 x
 |[],m,h=>h
 |n::l,m,h=>fold_i hlog l (rstep log m n) (rstep_i hlog h)
theorem snapAt_D {w:WorldD} {n:Int} (hw:DW w):snD (snapAt w n).1:=by
 have hl:=hw.log
 unfold snapAt
 split
 ·rename_i h
  exact⟨by simp only[replay_len];omega,fold_i hl _ _ (fun x hx=>by rw[List.eq_of_mem_replicate hx];exact⟨by omega,by omega⟩),⟨by simp only;omega,by simp only;omega⟩⟩
 ·exact⟨by simp,fun x hx=>(by cases hx),⟨by simp only;omega,by simp only;omega⟩⟩
theorem ev_l22Draw (b:List Int) (c:Nat×Int) (hb:byt b) (hc:c.1<=b.length): ∃w s c',DW w/\snD s/\c'.1<=b.length/\semK G PK md 56 [.pm (cur b c)]=some ⟨[.a (owneds (fWo w)),.a (owneds (fSn s))],[],[cur b c']⟩:=by
 obtain⟨w,c1,hw,k1,e1⟩:=ev_l12Draw (PK:=PK) b c hb hc
 have hl:=hw.log
 have hwl:IntKind.wrap .i64 ((w.log.length:Int)+1)=w.log.length+1:=wrap_id (by omega) (by omega)
 obtain⟨n,c2,hn,_,k2,e2⟩:=ev_l1Below (PK:=PK) b c1 (w.log.length+1) hb k1 (by omega)
 have e3:=ev_spec_SnapAt (PK:=PK) w n (by omega)
 have hs:=snapAt_D (n:=n) hw
 obtain⟨x,c3,_,_,k3,e4⟩:=ev_l1Below (PK:=PK) b c2 6 hb k2 (by omega)
 simp only[cur,lents,lent,owneds,owned,fWo,fSn]at e1 e2 e3 e4
 generalize snapAt w n=sn at*
 obtain⟨⟨la,im⟩,ok⟩:=sn
 obtain⟨hs1,hs2,hs3⟩:=hs
 simp only at hs1 hs2 hs3 e3
 by_cases x0:x=0
 ·obtain⟨y,c4,hy,_,k4,e5⟩:=ev_l1Below (PK:=PK) b c3 9 hb k3 (by omega)
  have hy:=hy (by omega)
  have hwy:IntKind.wrap .i64 (y - 1)=y - 1:=wrap_id (by omega) (by omega)
  simp only[cur]at e5
  refine⟨w,⟨y - 1,im⟩,c4,hw,⟨hs1,hs2,⟨by simp only;omega,by simp only;omega⟩⟩,k4,semK_of (pf:=p56) rfl (by simp[p56]) ?_⟩
  simp (config:={maxSteps:=10000000}) [p56,md,e1,e2,e3,e4,e5,hwl,hwy,x0,Alike2]
 by_cases x1:x=1
 ·obtain⟨m,c4,hm,hmb,k4,e5⟩:=ev_l2DrawImage (PK:=PK) b c3 hb k3
  simp only[cur]at e5
  refine⟨w,⟨la,m⟩,c4,hw,⟨hm,hmb.i,hs3⟩,k4,semK_of (pf:=p56) rfl (by simp[p56]) ?_⟩
  simp (config:={maxSteps:=10000000}) [p56,md,e1,e2,e3,e4,e5,hwl,x1,Alike2]
 refine⟨w,⟨la,im⟩,c3,hw,⟨hs1,hs2,hs3⟩,k3,semK_of (pf:=p56) rfl (by simp[p56]) ?_⟩
 simp (config:={maxSteps:=10000000}) [p56,md,e1,e2,e3,e4,hwl,x0,x1,Alike2]
theorem ev_DrawSnapOk (b:List Int) (hb:byt b): ∃w s,DW w/\snD s/\semK G PK md 11 [.v (.im 1 (enc fU b))]=some ⟨[.a (owneds (fWo w)),.a (owneds (fSn s))],[],[]⟩:=by
 obtain⟨c,hc,e0⟩:=ev_l1New (PK:=PK) b hb
 obtain⟨w,s,c1,hw,hs,_,e1⟩:=ev_l22Draw (PK:=PK) b c hb hc
 simp only[cur,owneds,owned,fWo,fSn]at e0 e1
 refine⟨w,s,hw,hs,semK_of (pf:=p11) rfl (by simp[p11]) ?_⟩
 simp (config:={maxSteps:=10000000}) [p11,md,e0,e1,Alike2]
theorem ev_DrawMomentOf (b:List Int) (hb:byt b): ∃w m,DW w/\m.length<=9/\semK G PK md 12 [.v (.im 1 (enc fU b))]=some ⟨[.a (owneds (fWo w)),.v (.own 1 (enc fI m))],[],[]⟩:=by
 obtain⟨c,hc,e0⟩:=ev_l1New (PK:=PK) b hb
 obtain⟨w,s,c1,hw,hs,_,e1⟩:=ev_l22Draw (PK:=PK) b c hb hc
 simp only[cur,owneds,owned,fWo,fSn]at e0 e1
 refine⟨w,s.image,hw,hs.len,semK_of (pf:=p12) rfl (by simp[p12]) ?_⟩
 simp (config:={maxSteps:=10000000}) [p12,md,e0,e1,Alike2]
theorem ev_DrawSnapText (b:List Int) (hb:byt b): ∃s,snD s/\semK G PK md 15 [.v (.im 1 (enc fU b))]=some ⟨[.a (owneds (fSn s))],[],[]⟩:=by
 obtain⟨c,hc,e0⟩:=ev_l1New (PK:=PK) b hb
 obtain⟨w,s,c1,hw,hs,_,e1⟩:=ev_l22Draw (PK:=PK) b c hb hc
 simp only[cur,owneds,owned,fWo,fSn]at e0 e1
 refine⟨s,hs,semK_of (pf:=p15) rfl (by simp[p15]) ?_⟩
 simp (config:={maxSteps:=10000000}) [p15,md,e0,e1,Alike2]
end Go.Proofs.YtbolhfegdocpeaaGreat.Ow
