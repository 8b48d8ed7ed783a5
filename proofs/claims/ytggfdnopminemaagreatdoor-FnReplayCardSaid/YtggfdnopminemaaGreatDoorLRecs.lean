/- Walks: a dictionary and. -/
import Derived.Test.YtggfdnopminemaaGreatDoorDrawSs
set_option linter.all false
namespace Go.Proofs.YtggfdnopminemaaGreatDoor
open Go.Proofs.Tryz
open Go Go.RowKit
set_option maxHeartbeats 8000000
set_option maxRecDepth 100000
theorem e2x (d p:Str) (n:Int) (c r:Str):(P.appS d p n c r).1.length<=p.length+40000:=by
 cases h:P.a0j d p n
 .unfold P.appS;rw [h];show p.length<=_;omega
 .have:=P.c0t (c:=c) (r:=r) h;omega
def d7g (w:World) (e:Ending) (w':World):Prop:=
 ∃(l:P.Dic) (u:Value) (d p:Str) (n:Int),e=.returned (.tuple #[.agg #[u],L.logV d p n])/\a8p l/\d.length<=2^20/\p.length<=2^20/\EntR w' u l/\Bl w w'
theorem c1l (v:Value) (w:World) (hv:b8e w v) (hE:L.Env w) :
 Cz 11 #[v] w (d7g w):=by
 obtain⟨ad,n,cap,rfl,_,_⟩:=id hv
 have HEB:=qh hE.size
 obtain⟨V1,hV1⟩:∃v,w.alloc (.cells #[.slice none 0 0] 26)=v:=⟨_,rfl⟩
 have hb1:Bl w V1:=by rw [<-hV1];exact (Below.refl w.heap.size w).alloc lZ _
 have hd1:DBx w.heap.size (.slice none 0 0) V1:=by rw [<-hV1];exact DBx.new _ _ _
 have hz1:V1.heap.size=w.heap.size+1:=by rw [<-hV1];simp
 obtain⟨V0,hV0⟩:∃v,V1.alloc (.cells #[.string (S []),.string (S []),.int .i64 0] 28)=v:=⟨_,rfl⟩
 have hb2:Bl V1 V0:=by rw [<-hV0];exact (Below.refl V1.heap.size V1).alloc lZ _
 have hl1:LgB V1.heap.size [] [] 0 V0:=by rw [<-hV0];exact LgB.new _ _ _ _ _
 have hb0:Bl w V0:=hb1.trans (hb2.mono oZ)
 have HD0:=qh (hd1.below hb2);have HL0:=qh hl1
 have HV:=qh hv;have HB0:=qh hb0;have HE:=qh (hE.below hb0 hE.size)
 have hzV:V1.heap.size<V0.heap.size:=hl1.2.2.2.2.2.2
 have hzR:w.heap.size<V1.heap.size:=by omega
 clear hb0 hb1 hb2 hd1 hl1 hv hE hz1
 go_enter func11,ntmps11
 go_upto_region 1 with fail
 try rw [hV1]
 try rw [hV0]
 clear hV0 hV1
 generalize V1.heap.size=R1 at *
 have HC:=qh (HV.o.fresh (t:=91) HB0.o)
 have hba:=(Below.refl V0.heap.size V0).alloc lZ (.cells #[.slice ad n cap,.int .i64 0,.int .u64 0] 91)
 have HD1:=qh (HD0.o.below hba);have HL1:=qh (HL0.o.below hba);have HB1:=bt HB0 hba;have HE1:=qh (HE.o.below hba HE.o.size)
 have hz1:V0.heap.size<(V0.alloc (.cells #[.slice ad n cap,.int .i64 0,.int .u64 0] 91)).heap.size:=by simp
 clear hba HB0 HV HE HD0 HL0
 go_upto_region 2 with fail
 generalize V0.alloc (.cells #[.slice ad n cap,.int .i64 0,.int .u64 0] 91)=v1 at *
 generalize V0.heap.size=C at *
 go_wp2_with fail
 refine (a6v w.heap.size C 0 _ dZ HC.o).mono ?_
 rintro e w2 ⟨l,u,rfl,hd,hr,hc⟩
 obtain⟨ua,uc,rfl,_,_⟩:=hr.now
 have HS0:=qh (a5g.start (t:=26) hc (hc.envL HE1.o HEB.o oZ hz1) hd hr HEB.o oZ hz1)
 have HDR:=qh hd
 have hz2:v1.heap.size<=w2.heap.size:=hc.2.size
 clear hc hr hd HE1 HC
 go_upto_region 4 with fail
 generalize hW:World.alloc (w2.alloc _) _=W2 at *
 clear hW
 go_wp2_with fail
 refine (a0r w.heap.size C 2000 7 _ dZ dZ HS0.o.cur.1).mono ?_
 rintro e w3 ⟨x,hx,rfl,hc⟩
 have HS1:=qh (HS0.o.draw hc)
 have hx7:x<7:=by omega
 clear hc HS0 hx
 go_wp2_with fail
 go_loopw [7] (λn wr=>∃(k:Nat) (u us:Value) (s:P.Ses) (g:P.LogT),k<=6/\n=.int .i64 k/\a5g w.heap.size C (2002+400*(6-k)) v1 w2.heap.size (.slice ua l.length uc) l u us s g wr) (λn _=>(intOf n).toNat)
 case atStart=>exact⟨x,_,_,_,_,by omega,rfl,HS1.o.mono oZ⟩
 case round=>
  obtain⟨k,u,us,⟨l1,st1,sc1⟩,⟨d1,p1,n1⟩,hk,rfl,hr⟩:=hrel;have H3:=qh hr;obtain⟨xa,xc,rfl,_,_⟩:=hr.rdE.now;obtain⟨ya,yc,rfl,_,_⟩:=hr.rdI.now;clear HS1 hr
  by_cases h0:0<k
  .have h0i:(0:Int)<(k:Int):=by omega
   have hk1:((k:Int)-1)=((k-1:Nat):Int):=by omega
   have A4:=H3.o.call (Below.refl wr.heap.size wr).drew;obtain⟨⟨y0,y1,y2,y3,y4,y5,y6⟩,f0,f1,f2,f3,f4,f5⟩:=A4.box;obtain⟨b0,b1,b2⟩:=A4.dbx
   go_upto_region 7 with fail
   have hN2:2002+400*(6-k)<2^30:=by omega
   have hln:∀t:Str,t.length<=700->t.length<=2^20:=λt h=>by omega
   have hKK:2002+400*(6-k)+300<=2002+400*(6-(k-1)):=by omega
   go_region_law ((go_simp;(first|(go_at_call 52;refine (a7t w.heap.size C _ _ _ _ l _ hN2 A4.cur.1 A4.rd0 hz1 HDR.o).mono ?_;rintro e v ⟨t,rfl,htl,hcp⟩;have A5:=A4.draw hcp)|(go_at_call 34;refine (a8x _ _ l1 st1 sc1 d1 p1 n1 _ _ A5.rdE.now A5.rdI.now A5.fit.fit (hln _ (by assumption)) A5.env).mono ?_;rintro e v hpost;obtain⟨na,ma,nc,mc,⟨l2,st2,sc2⟩,⟨d2,p2,n2⟩,rep,rfl,A6,A7⟩:=a5g.run (s:=(l1,(st1,sc1))) (g:=(d1,p1,n1)) A5 hpost;clear hpost));clear y0 y1 y2 y3 y4 y5 y6 f0 f1 f2 f3 f4 f5 b0 b1 b2;obtain⟨⟨y0,y1,y2,y3,y4,y5,y6⟩,f0,f1,f2,f3,f4,f5⟩:=(by first|exact A6.box|exact A5.box);obtain⟨b0,b1,b2⟩:=(by first|exact A6.dbx|exact A5.dbx)))
   all_goals
    go_wp2
    go_roundw
    case rel=>exact⟨k-1,_,_,_,_,by omega,by go_num,A7.mono hKK⟩
    case measure=>exact zq
  .have h00:¬(0:Int)<(k:Int):=by omega
   obtain⟨⟨y0,y1,y2,y3,y4,y5,y6⟩,_⟩:=H3.o.box;have hbl:=(Below.refl wr.heap.size wr).alloc lZ (.cells #[.string (S d1),.string (S p1),.int .i64 n1] 28);have HL2:=qh (LgB.new d1 p1 n1 28 wr);have H4:=qh (H3.o.call hbl);have hzE:w2.heap.size+1<wr.heap.size:=y6;have hdl:=H3.o.fit.dur;have hpl:=H3.o.fit.pen;simp only at hdl hpl;clear hbl
   go_upto_region 9 with fail
   clear H3 y0 y1 y2 y3 y4 y5 y6;generalize wr.alloc (.cells #[.string (S d1),.string (S p1),.int .i64 n1] 28)=w4 at *;generalize wr.heap.size=E at *
   go_wp2_with fail
   refine (a9t w.heap.size C (2002+400*(6-k)) 3 _ oZ dZ H4.o.cur.1).mono ?_;rintro e w5 ⟨b,rfl,hc⟩;have H5:=qh (H4.o.draw hc);have HL5:=qh (HL2.o.a0b hc.2 oZ);clear hc H4 HL2
   go_upto_if 33 with fail
   go_cut [] (λwx=>∃(d p:Str) (n:Int),d.length<=2^20/\p.length<=2^20/\LgB E d p n wx/\a0e w.heap.size C 9000 v1 wx/\DBx w2.heap.size (.slice ua l.length uc) wx/\a5q v1.heap.size w2.heap.size wx (.slice ua l.length uc) l)
   case first=>
    cases b
    .go_wp2;go_meet;exact⟨d1,p1,n1,by omega,by omega,HL5.o,H5.o.cur.mono oZ,H5.o.dbx,H5.o.rd0⟩
    .have A4:=H5.o.call (Below.refl w5.heap.size w5).drew;have L4:=HL5.o.below (Below.refl w5.heap.size w5).drew;obtain⟨a0,a1,a2,x0,x1,x2,a3⟩:=L4;have hd2:d1.length<=2^20:=by omega
     have hp2:p1.length<=2^20:=by omega
     have hc2:∀c:Str,c.length<=16->c.length<=2^20:=λc h=>by omega
     have hK2:2002+400*(6-k)+2<2^38:=by omega
     have hEC:E≠C:=by omega
     have L4:=HL5.o.below (Below.refl w5.heap.size w5).drew
     go_upto_region 10 with fail
     go_region_law ((go_simp;(first|(go_at_call 55;refine (b9h w.heap.size C _ _ hK2 A4.cur.1).mono ?_;rintro e v ⟨c,r,hcl,hrl,rfl,hcp⟩;have A5:=A4.draw hcp;have L5:=L4.a0b hcp.2 hEC)|(go_at_call 54;refine (L.b1g _ _ _ _ _ _ hd2 hp2 (hc2 _ (by assumption)) (hc2 _ (by assumption)) A5.env).mono ?_;rintro e v ⟨rfl,hb⟩;have A6:=A5.call hb;have L6:=L5.below hb;clear hb));clear a0 a1 a2 x0 x1 x2 a3;obtain⟨a0,a1,a2,x0,x1,x2,a3⟩:=(by first|exact L6|exact L5)))
     all_goals
      go_wp2_with fail
      go_meet
      have hcg:Chg (λb=>b=E) v (((v.setCell ⟨E,0,none⟩ (.string (S d1))).setCell ⟨E,1,none⟩ (.string (S (P.appS d1 p1 n1 c r).1))).setCell ⟨E,2,none⟩ (.int .i64 (P.appS d1 p1 n1 c r).2.1)):=(((Chg.refl (λb=>b=E) v).setCell (p:=⟨E,0,none⟩) rfl _).setCell (p:=⟨E,1,none⟩) rfl _).setCell (p:=⟨E,2,none⟩) rfl _
      exact⟨_,_,_,hd2,Nat.le_trans (e2x d1 p1 n1 c r) oZ,L6.put _ _ _,(A6.cur.new hcg (by rintro b rfl;omega) hz1 oZ).mono oZ,A6.dbx.a0b hcg oZ,A6.rd0.chg hcg (λb h1 h2 e=>by omega)⟩
   case rest=>
    obtain⟨d,p,m,hd,hp,hlg,hcur,hdb,hrd⟩:=hcut;have HEND:Hq (∀v',Chg (λb=>b=w.heap.size\/b=R1) wc v'->d7g w (.returned (.tuple #[.agg #[.slice ua l.length uc],L.logV d p m])) v'):=⟨λv' hcg=>⟨l,_,d,p,m,rfl,HDR.o,hd,hp,(hrd.chg hcg (λb h1 h2 e=>by rcases e with e|e<;>omega)).now,Chg.a0n (Chg.a0n HB1.o hcur.2 HB1.o.size (λb e=>by omega)) hcg (Chg.a0n HB1.o hcur.2 HB1.o.size (λb e=>by omega)).size (λb e=>by rcases e with e|e<;>omega)⟩⟩;obtain⟨q0,q1,q2⟩:=HD1.o.a0b hcur.2 oZ;obtain⟨r0,r1,r2,s0,s1,s2,r3⟩:=HL1.o.a0b hcur.2 oZ;obtain⟨a0,a1,a2,_,_,_,a3⟩:=hlg;obtain⟨b0,_,b2⟩:=hdb;clear hrd hcur H5 HL5 HD1 HL1 HDR HB1
    go_wp2_with fail
    go_region
    all_goals
     go_wp2
     refine bodyPost_ret (v:=.tuple #[.agg #[.slice ua l.length uc],L.logV d p m]) (by simp [results,results11,go_sem,q0,r0,r1,r2]) rfl ?_
     refine HEND.o _ ?_
     first
      |exact (((((Chg.refl (λb=>b=w.heap.size\/b=R1) wc).setCell (p:=⟨w.heap.size,0,none⟩) (.inl rfl) _).setCell (p:=⟨R1,0,none⟩) (.inr rfl) _).setCell (p:=⟨R1,1,none⟩) (.inr rfl) _).setCell (p:=⟨R1,2,none⟩) (.inr rfl) _).drew
      |exact ((((Chg.refl (λb=>b=w.heap.size\/b=R1) wc).setCell (p:=⟨w.heap.size,0,none⟩) (.inl rfl) _).setCell (p:=⟨R1,0,none⟩) (.inr rfl) _).setCell (p:=⟨R1,1,none⟩) (.inr rfl) _).setCell (p:=⟨R1,2,none⟩) (.inr rfl) _
      |exact (((((Chg.refl (λb=>b=w.heap.size\/b=R1) wc).setCell (p:=⟨R1,0,none⟩) (.inr rfl) _).setCell (p:=⟨R1,1,none⟩) (.inr rfl) _).setCell (p:=⟨R1,2,none⟩) (.inr rfl) _).setCell (p:=⟨w.heap.size,0,none⟩) (.inl rfl) _).drew
      |exact ((((Chg.refl (λb=>b=w.heap.size\/b=R1) wc).setCell (p:=⟨R1,0,none⟩) (.inr rfl) _).setCell (p:=⟨R1,1,none⟩) (.inr rfl) _).setCell (p:=⟨R1,2,none⟩) (.inr rfl) _).setCell (p:=⟨w.heap.size,0,none⟩) (.inl rfl) _
end Go.Proofs.YtggfdnopminemaaGreatDoor
namespace Go.Proofs.YtggfdnopminemaaGreatDoor.P
open Go.Proofs.Tryz
def bits (l:List Nat):Nat:=(l.map (2^·)).sum
end Go.Proofs.YtggfdnopminemaaGreatDoor.P
namespace Go.Proofs.YtggfdnopminemaaGreatDoor
open Go.Proofs.Tryz
namespace P
def nx (s:Bs) (st:RSt):RSt:=(st.1++[(decode st.1.length (s.drop st.2.2)).1],st.2.1++[((st.2.2+(decode st.1.length (s.drop st.2.2)).2.1:Nat):Int)],st.2.2+(decode st.1.length (s.drop st.2.2)).2.1)
theorem a4q {s:Bs} {st:RSt} (h:(decode st.1.length (s.drop st.2.2)).2.2=true) (n:Nat):runI s (n+1) st=runI s n (nx s st):=c2k (b2q h) n
theorem a9s {s:Bs} {st:RSt} (h:(decode st.1.length (s.drop st.2.2)).2.2=false) (n:Nat):runI s n st=st:=c3f (a7a h) n
theorem d3k {s:Bs} {st:RSt} (hs:st.2.2<=s.length) (h:(decode st.1.length (s.drop st.2.2)).2.2=true):(nx s st).2.2<=s.length:=by
 have h3:=(a5p _ _ h).2.2;rw [List.length_drop]at h3
 show st.2.2+(decode st.1.length (s.drop st.2.2)).2.1<=s.length
 omega
theorem c0y (s:Bs):∀(n:Nat) (st:RSt),st.2.2<=s.length->(runI s n st).2.2<=s.length
 |0,_,h=>h
 |n+1,st,h=>by
  cases hd:(decode st.1.length (s.drop st.2.2)).2.2
  .rw [a9s hd];exact h
  .rw [a4q hd];exact c0y s n _ (d3k h hd)
theorem c1r (s:Bs):∀(n:Nat) (st:RSt),(∃l,(runI s n st).1=st.1++l)/\st.2.2<=(runI s n st).2.2
 |0,_=>⟨⟨[],(List.append_nil _).symm⟩,Nat.le_refl _⟩
 |n+1,st=>by
  cases hd:(decode st.1.length (s.drop st.2.2)).2.2
  .rw [a9s hd];exact⟨⟨[],(List.append_nil _).symm⟩,Nat.le_refl _⟩
  .rw [a4q hd];obtain⟨⟨l,h1⟩,h2⟩:=c1r s n (nx s st);refine⟨⟨(decode st.1.length (s.drop st.2.2)).1::l,by rw [h1];simp [nx]⟩,Nat.le_trans ?_ h2⟩
   show st.2.2<=st.2.2+(decode st.1.length (s.drop st.2.2)).2.1
   omega
theorem d5l {t x:Bs} {st:RSt} (hs:st.2.2<=t.length) (h:(decode st.1.length (t.drop st.2.2)).2.2=true):(decode st.1.length ((t++x).drop st.2.2)).2.2=true/\nx (t++x) st=nx t st:=by
 have h1:=(a8c (k:=st.1.length) (p:=x) hs).1 h;exact⟨by rw [h1];exact h,by unfold nx;rw [h1]⟩
theorem c2s (t x:Bs):∀(n:Nat) (st:RSt),st.2.2<=t.length->(∃l,(runI (t++x) n st).1=(runI t n st).1++l)/\(runI t n st).2.2<=(runI (t++x) n st).2.2
 |0,_,_=>⟨⟨[],(List.append_nil _).symm⟩,Nat.le_refl _⟩
 |n+1,st,hs=>by
  cases hd:(decode st.1.length (t.drop st.2.2)).2.2
  .rw [a9s hd];exact c1r (t++x) (n+1) st
  .obtain⟨h1,h2⟩:=d5l (x:=x) hs hd;rw [a4q hd,a4q h1,h2];exact c2s t x n _ (d3k hs hd)
theorem c8t (d p:Bs):∀(n:Nat) (st:RSt),st.2.2<=d.length->(runI (d++p) n st).2.2<=d.length->runI d n st=runI (d++p) n st
 |0,_,_,_=>rfl
 |n+1,st,hs,he=>by
  obtain⟨p1,p2⟩:=a8c (k:=st.1.length) (p:=p) hs
  cases hd:(decode st.1.length ((d++p).drop st.2.2)).2.2
  .have hd':(decode st.1.length (d.drop st.2.2)).2.2=false:=by
    cases h:(decode st.1.length (d.drop st.2.2)).2.2
    .rfl
    .rw [p1 h,h]at hd;cases hd
   rw [a9s hd,a9s hd']
  .rw [a4q hd]at he⊢;have h1:=(c1r (d++p) n (nx (d++p) st)).2;have h2:=p2 hd (Nat.le_trans h1 he);obtain⟨_,h3⟩:=d5l (x:=p) hs h2;rw [a4q h2];rw [h3]at he⊢;exact c8t d p n _ (d3k hs h2) he
theorem c8i (t x:Bs):∀(n:Nat) (st:RSt),st.2.2<=t.length->(runI t n st).1.length<st.1.length+n->runI (t++x) n st=runI (t++x) (st.1.length+n-(runI t n st).1.length) (runI t n st)
 |0,st,_,h=>by exact absurd h (Nat.lt_irrefl _)
 |n+1,st,hs,h=>by
  cases hd:(decode st.1.length (t.drop st.2.2)).2.2
  .rw [a9s hd,show st.1.length+(n+1)-st.1.length=n+1 by omega]
  .obtain⟨h1,h2⟩:=d5l (x:=x) hs hd;rw [a4q hd]at h⊢;rw [a4q h1,h2];have e:(nx t st).1.length=st.1.length+1:=by simp [nx]
   rw [c8i t x n _ (d3k hs hd) (by rw [e];omega),e,show st.1.length+1+n=st.1.length+(n+1) by omega]
theorem d0t (k:Nat):(decode k []).2.2=false:=by
 cases h:(decode k []).2.2
 .rfl
 .have:=a5p _ _ h;simp at this;omega
theorem d0j {t c r:Bs} {old:List (Bs×Bs)} {ends:List Int} (h:readAll t=(old,ends,t.length)) (hn:old.length<=59) (hg:good c r=true) :
 ∃ends',readAll (t++line old.length c r)=(old++[(c,r)],ends',(t++line old.length c r).length):=by
 have h1:=c8i t (line old.length c r) 60 ([],[],0) (Nat.zero_le _) (by
  show (readAll t).1.length<_
  rw [h];show old.length<0+60;omega)
 rw [show runI t 60 ([],[],0)=(old,ends,t.length) from h]at h1
 have h2:readAll (t++line old.length c r)=runI (t++line old.length c r) (60-old.length) (old,ends,t.length):=by
  unfold readAll;rw [h1];rw [show (([],[],0):RSt).1.length+60-((old,ends,t.length):RSt).1.length=60-old.length by show 0+60-old.length=_;omega]
 obtain⟨m,hm⟩:∃m,60-old.length=m+1:=⟨59-old.length,by omega⟩
 have hd:=a4c [] hn hg
 rw [List.append_nil]at hd
 have h3:decode old.length ((t++line old.length c r).drop t.length)=((c,r),(line old.length c r).length,true):=by rw [List.drop_left,hd]
 rw [h2,hm,a4q (by show (decode old.length ((t++line old.length c r).drop t.length)).2.2=true;rw [h3])]
 have hnx:nx (t++line old.length c r) (old,ends,t.length)=(old++[(c,r)],ends++[((t.length+(line old.length c r).length:Nat):Int)],t.length+(line old.length c r).length):=by
  unfold nx;simp only [h3]
 rw [hnx,a9s (by
  show (decode (old++[(c,r)]).length ((t++line old.length c r).drop (t.length+(line old.length c r).length))).2.2=false
  rw [<-List.length_append,List.drop_length]
  exact d0t _)]
 exact⟨_,by rw [List.length_append]⟩
theorem c3l (s:Bs):∀(n:Nat) (st:RSt),st.2.2<=s.length->(runI s n st).2.2<=st.2.2+((runI s n st).1.length-st.1.length)*334
 |0,st,_=>by simp [runI]
 |n+1,st,hs=>by
  cases hd:(decode st.1.length (s.drop st.2.2)).2.2
  .rw [a9s hd];omega
  .rw [a4q hd];have ih:=c3l s n (nx s st) (d3k hs hd);obtain⟨⟨l,hl⟩,_⟩:=c1r s n (nx s st);have e1:(nx s st).1.length=st.1.length+1:=by simp [nx]
   have e2:(runI s n (nx s st)).1.length=st.1.length+1+l.length:=by rw [hl,List.length_append,e1]
   obtain⟨hk,g,tail,e⟩:=a5k hd;have hdo:=a4c tail hk g;rw [<-e]at hdo;have hn:(decode st.1.length (s.drop st.2.2)).2.1=(line st.1.length (decode st.1.length (s.drop st.2.2)).1.1 (decode st.1.length (s.drop st.2.2)).1.2).length:=congrArg (λz=>z.2.1) hdo;have hle:=(a5j hk g).1;have e3:(nx s st).2.2=st.2.2+(decode st.1.length (s.drop st.2.2)).2.1:=rfl;rw [e1]at ih;omega
theorem d1i {d p:Bs} {n:Int} {c r:Bs} (h:a0j d p n=true):a0j d (appS d p n c r).1 (appS d p n c r).2.1=true/\(appS d p n c r).2.1<=n+1:=by
 obtain⟨g1,g2,g3⟩:=a8f h;unfold appS
 split
 .exact⟨h,by show n<=n+1;omega⟩
 .rename_i hg
  split
  .exact⟨h,by show n<=n+1;omega⟩
  .rename_i h6
   have h7:n≠60:=by simpa using h6
   have hg2:good c r=true:=by simpa [h] using hg
   refine⟨?_,Int.le_refl _⟩;have hv:=h;unfold a0j at hv;simp only [Bool.and_eq_true,decide_eq_true_eq,beq_iff_eq,a1s]at hv;obtain⟨_,v2,v3,v4⟩:=hv
   have e0:readAll (d++p)=((readAll (d++p)).1,(readAll (d++p)).2.1,(d++p).length):=by
    have:(readAll (d++p)).2.2=(d++p).length:=by rw [List.length_append];omega
    rw [<-this]
   obtain⟨ends,e1⟩:=d0j e0 oZ hg2;have hn:(readAll (d++p)).1.length=n.toNat:=by omega
   rw [hn]at e1;have hps:=c3l (d++p++line n.toNat c r) 60 ([],[],0) (Nat.zero_le _);rw [show runI (d++p++line n.toNat c r) 60 ([],[],0)=_ from e1]at hps;simp only [List.length_append,List.length_cons,List.length_nil,hn,Nat.zero_add,Nat.sub_zero]at hps;unfold a0j;simp only [Bool.and_eq_true,decide_eq_true_eq,beq_iff_eq,a1s];rw [<-List.append_assoc,e1];simp only [List.length_append,List.length_cons,List.length_nil,hn];refine⟨by omega,by omega,v3,by omega⟩
end P
end Go.Proofs.YtggfdnopminemaaGreatDoor
namespace Go.Proofs.YtggfdnopminemaaGreatDoor.P
open Go.Proofs.Tryz
variable {a c l more p r t word x:Bs} {d:Dic} {k n:Int} {o:List Int} {g:LogT} {s:Ses} {b:UInt8}
theorem e4p (h:dic d=true):b0k (d,([],[])) ([],[],0)=true:=by
 unfold b0k sess;simp only [Bool.and_eq_true];refine⟨?_,by decide⟩;have hs:=e4a h;unfold trans;rw [hs];rfl
def nh (l:Bs):Prop:=∀b∈l,b≠35
theorem b4l {b:Bs} (ha:nh a) (hb:nh b):nh (a++b):=λx h=>(List.mem_append.1 h).elim (ha x) (hb x)
theorem b5c:nh []:=λ_ h=>by cases h
theorem d6p (h:nh a) (n:Nat):nh (a.take n):=λx hx=>h x (List.mem_of_mem_take hx)
theorem d4t (h:nh a) (n:Nat):nh (a.drop n):=λx hx=>h x (List.mem_of_mem_drop hx)
theorem e1u (h:b≠35) (hl:nh l):nh (b::l):=λx hx=>(List.mem_cons.1 hx).elim (λe=>e ▸ h) (hl x)
theorem d9x (h:lower b=true):b≠35:=by
 rintro rfl;revert h;decide
theorem c8u (h:nh t):nh (upper t):=by
 cases t with
 |nil=>exact h
 |cons a t=>
  intro b hb;unfold upper at hb
  rcases List.mem_cons.1 hb with rfl|hb
  .split
   .rename_i hl
    unfold lower at hl;simp only [Bool.and_eq_true,decide_eq_true_eq]at hl;intro e;have h1:32<=a:=by rw [UInt8.le_iff_toNat_le];show 32<=a.toNat;omega
    have h2:=congrArg UInt8.toNat e;rw [UInt8.toNat_sub_of_le _ _ h1]at h2;have h3:a.toNat-32=35:=h2;omega
   .exact h _ (List.mem_cons_self ..)
  .exact h b (List.mem_cons_of_mem _ hb)
theorem d0r (h:nh t):nh (a1q t):=by
 cases t with
 |nil=>exact h
 |cons a t=>
  intro b hb;unfold a1q at hb
  rcases List.mem_cons.1 hb with rfl|hb
  .split
   .rename_i hl
    unfold upB at hl;simp only [Bool.and_eq_true,decide_eq_true_eq]at hl;intro e;have h2:=congrArg UInt8.toNat e;rw [UInt8.toNat_add]at h2;have h3:(a.toNat+32) % 256=35:=h2;omega
   .exact h _ (List.mem_cons_self ..)
  .exact h b (List.mem_cons_of_mem _ hb)
theorem d9z (h:nh t):nh (a3r t k):=by
 unfold a3r
 split
 .exact c8u h
 split
 .exact d0r h
 .exact h
theorem e4x {s:St} (h:nh s.text):nh (base s):=by
 unfold base
 split
 .exact h
 .exact b4l h (e1u dZ b5c)
theorem d4c (h:atom k t=true):nh t:=by
 have hw:word t=true->nh t:=by
  intro h b hb;unfold word at h;simp only [Bool.and_eq_true,List.all_eq_true]at h;have:=h.1 b hb;unfold a2z at this;simp only [Bool.and_eq_true,Bool.not_eq_true',beq_eq_false_iff_ne]at this;exact this.1.2
 unfold atom at h
 repeat' split at h
 all_goals first
  |exact hw h
  |(simp only [Bool.or_eq_true,beq_iff_eq,Bool.and_eq_true]at h;first|(rcases h with rfl|rfl|rfl<;>exact e1u dZ b5c)|(obtain⟨_,rfl⟩:=h;exact b5c))
theorem c8x {s:St} (h:nh s.text) (ht:nh t):nh (put s t).text:=b4l (e4x h) (d9z ht)
theorem e4h {s:St} (h:nh s.text) (hx:nh x):nh (endS s x):=by
 unfold endS
 split
 .rename_i hj
  exact b4l (d6p h _) λb hb=>d9x ((a4m hj).2 b hb)
 .exact b4l h hx
theorem c6p {s:St} (h:nh s.text) (ht:nh t):nh (a2h s t).text:=by
 unfold a2h
 split
 .exact c8x (s:={ s with a0u:=true }) h ht
 .exact c8x h ht
theorem d9f {s:St} (h:nh s.text) (ha:atom k t=true):nh (apply s k t).text:=by
 have ht:=d4c ha;unfold apply
 split
 .exact c8x h ht
 split
 .exact e4h h ht
 split
 .exact c8x h ht
 split
 .exact b4l h ht
 split
 .exact c6p h ht
 split
 .exact b4l h ht
 split
 .exact b4l h ht
 split
 .exact h
 split
 .exact h
 split
 .exact b4l (d6p h _) (c8u (d4t h _))
 .exact h
theorem d5e:∀(l:List (Int×Bs)) (s:St),nh s.text->nh (a6l (runA s l))
 |[],s,h=>h
 |a::l,s,h=>by
  unfold runA
  split
  .rename_i hc
   simp only [Bool.and_eq_true]at hc
   split
   .exact b5c
   .exact d5e l _ (d9f h hc.2)
  .exact b5c
theorem d7y (l:List (Int×Bs)):nh (render l).1:=by
 unfold render
 split
 .exact b5c
 .exact d5e l init b5c
theorem scr_nh (d:Dic) (st:List Int):nh (scr d st).1:=by
 unfold scr
 split
 .exact d7y _
 .exact b5c
theorem num_nh (n:Nat):nh (num n):=e2a n 35 dZ
def cl (l:Bs):Prop:=∀b∈l,plainByte b=true
theorem b4t {b:Bs} (ha:cl a) (hb:cl b):cl (a++b):=λx h=>(List.mem_append.1 h).elim (ha x) (hb x)
theorem b4x:cl []:=λ_ h=>by cases h
theorem a4i (h:plainByte b=true) (hl:cl l):cl (b::l):=λx hx=>(List.mem_cons.1 hx).elim (λe=>e ▸ h) (hl x)
theorem cl_of (h1:∀b∈l,prn b=true) (h2:nh l):cl l:=by
 intro b hb;have h3:=h1 b hb;have h4:=h2 b hb;unfold prn at h3;unfold plainByte;simp only [Bool.and_eq_true,Bool.not_eq_true',beq_eq_false_iff_ne];simp only [Bool.and_eq_true]at h3;exact⟨h3,h4⟩
theorem e4j (h:cl a) (n:Nat):cl (a.drop n):=λx hx=>h x (List.mem_of_mem_drop hx)
theorem d5x (d:Dic) (st:List Int):cl (scr d st).1:=by
 refine cl_of ?_ (scr_nh d st);have h:=a5n d st;unfold a3u at h;simp only [Bool.and_eq_true,List.all_eq_true]at h;exact h.2
theorem c8q (n:Nat):cl (num n):=by
 intro b hb;have h1:=b0c n b hb;have h2:=num_nh n b hb;unfold plainByte;simp only [Bool.and_eq_true,decide_eq_true_eq,Bool.not_eq_true',beq_eq_false_iff_ne];exact⟨by omega,h2⟩
theorem c7z {e:Edit} (h:cl e.2):cl (fmtE e):=a4i dZ (b4t (c8q _) (a4i dZ h))
theorem c0m {b:Bs} (h:cl b):cl (least a b).2:=e4j h _
theorem c9h {t:Tr} (h:trans d t=true):cl t.2:=(a2c h).2.1 ▸ d5x d t.1
/-! ### texts of entries -/
theorem e3g (h:atom k t=true):cl t:=cl_of (a6p h).1 (d4c h)
theorem e3a (h:cl t):cl (note k t):=by
 unfold note
 repeat' split
 .exact h
 .exact a4i dZ (a4i dZ (b4t h (a4i dZ b4x)))
 .exact a4i dZ (b4t h (a4i dZ (a4i dZ b4x)))
 .exact a4i dZ (a4i dZ (b4t h (a4i dZ (a4i dZ b4x))))
 .exact a4i dZ (a4i dZ (b4t h (a4i dZ b4x)))
 .unfold cl;decide
 .unfold cl;decide
 .unfold cl;decide
 .exact a4i dZ (b4t h (a4i dZ b4x))
theorem b6r (c:UInt8):∀(s:Bs),∀b∈s,b=c\/∃w∈split c s,b∈w
 |[],b,h=>by cases h
 |a::l,b,h=>by
  unfold split
  by_cases hac:a=c
  .rw [if_pos (by simpa using hac)]
   rcases List.mem_cons.1 h with e|h
   .exact .inl (e.trans hac)
   .rcases b6r c l b h with e|⟨w,h1,h2⟩
    .exact .inl e
    .exact .inr ⟨w,List.mem_cons_of_mem _ h1,h2⟩
  .rw [if_neg (by simpa using hac)];have ih:=b6r c l b
   cases hs:split c l with
   |nil=>
    rw [hs]at ih
    rcases List.mem_cons.1 h with e|h
    .exact .inr ⟨[a],List.mem_cons_self ..,by simp [e]⟩
    .rcases ih h with e|⟨w,h1,_⟩
     .exact .inl e
     .cases h1
   |cons x r=>
    rw [hs]at ih
    rcases List.mem_cons.1 h with e|h
    .exact .inr ⟨a::x,List.mem_cons_self ..,by simp [e]⟩
    .rcases ih h with e|⟨w,h1,h2⟩
     .exact .inl e
     .rcases List.mem_cons.1 h1 with rfl|h1
      .exact .inr ⟨a::w,List.mem_cons_self ..,List.mem_cons_of_mem _ h2⟩
      .exact .inr ⟨w,List.mem_cons_of_mem _ h1,h2⟩
theorem b6l:∀{ws:List Bs} {l:List (Int×Bs)},atoms ws=some l->∀w∈ws,cl w
 |[],_,_,w,h=>by cases h
 |w0::ws,l,h,w,hw=>by
  unfold atoms at h
  split at h
  .rename_i hc
   obtain⟨h1,h2⟩:=b8t hc
   cases ha:atoms ws with
   |none=>rw [ha]at h;cases h
   |some l'=>
    rcases List.mem_cons.1 hw with rfl|hw
    .rw [<-h2];exact e3a (e3g h1)
    .exact b6l ha w hw
  .cases h
theorem e3d {s:Bs} (h:(a0o s).2=true):cl s:=by
 unfold a0o at h
 split at h
 .cases h
 .cases ha:atoms (split 32 s) with
  |none=>rw [ha]at h;cases h
  |some l=>
   intro b hb
   rcases b6r 32 s b hb with rfl|⟨w,h1,h2⟩
   .decide
   .exact b6l ha w h1 b h2
/-! ### notations -/
theorem c1d:∀(l:List Nat) (m:Bool),∀b∈fmtL m l,b=45\/∃k∈l,b=lab k
 |[],m,b,h=>by unfold fmtL at h;cases h
 |k::l,m,b,h=>by
  unfold fmtL at h;have ih:=λm=>c1d l m b
  split at h
  .rcases List.mem_cons.1 h with e|h
   .exact .inl e
   exact zq128
  .exact zq128
theorem e2c:∀k:Fin 23,plainByte (hash (lab k.val))=true/\(1<=k.val->plainByte (lab k.val)=true):=by decide +kernel
theorem d8f (s:Int):cl ((fmt s).map hash):=by
 intro b hb;obtain⟨x,hx,rfl⟩:=List.mem_map.1 hb
 rcases c1d _ _ x hx with rfl|⟨k,hk,rfl⟩
 .decide
 .exact (e2c ⟨k,b3c (n:=23) hk⟩).1
theorem fmt_cl {s:Nat} (h:s % 2=0):cl (fmt (s:Int)):=by
 intro b hb
 rcases c1d _ _ b hb with rfl|⟨k,hk,rfl⟩
 .decide
 .refine (e2c ⟨k,b3c (n:=23) hk⟩).2 ?_
  rcases k with _|k
  .have hk':hasK (s:Int) ((0:Nat):Int)=true:=by
    have h2:(0:Nat)∈a3p (s:Int) 23:=hk;unfold a3p at h2;exact (List.mem_filter.1 h2).2
   have h3:s.testBit 0=true:=hk';rw [Nat.testBit_zero]at h3;simp [h]at h3
  .exact Nat.succ_le_succ (Nat.zero_le _)
theorem b9y (h:b≠35):∀(n k:Nat),23<=n+k->b6e b n k≠0
 |0,k,hn=>by unfold b6e;omega
 |n+1,k,hn=>by
  unfold b6e
  split
  .rename_i hl
   rintro rfl;exact h (hl.symm.trans dZ)
  .exact b9y h n (k+1) oZ
theorem b7c:∀(t:Bs) (q q':LSt),nh t->q.1 % 2=0->a3c t q=some q'->q'.1 % 2=0
 |[],q,q',_,h,e=>by injection e with e;subst e;exact h
 |b::t,q,q',hn,h,e=>by
  unfold a3c at e
  split at e
  .cases e
  .rename_i q1 h1
   refine b7c t q1 q' (λx hx=>hn x (List.mem_cons_of_mem _ hx)) ?_ e;unfold a3g at h1
   split at h1
   .split at h1
    .cases h1
    .injection h1 with h1;subst h1;exact h
   .split at h1
    .injection h1 with h1;subst h1
     have hk:keyOf b q.2.1≠0:=by
      by_cases h23:q.2.1<=23
      .exact b9y (hn b (List.mem_cons_self ..)) _ _ oZ
      .unfold keyOf;rw [show 23-q.2.1=0 by omega];unfold b6e;omega
     obtain⟨j,hj⟩:∃j,keyOf b q.2.1=j+1:=⟨keyOf b q.2.1-1,by omega⟩
     show (q.1+2^keyOf b q.2.1) % 2=0
     rw [hj,Nat.pow_succ];omega
    .cases h1
theorem d2q (h:nh t):(loose t).1 % 2=0:=by
 cases hl:a3c t (0,0,false) with
 |none=>rw [a5m hl];rfl
 |some q=>rw [b0i hl];exact b7c t _ q h rfl hl
theorem d0e (c:UInt8):∀(L:List Bs),∀b∈Go.Lib.join L [c],b=c\/∃x∈L,b∈x
 |[],b,h=>by cases h
 |x::r,b,h=>by
  rw [Go.Lib.join_cons]at h
  rcases List.mem_append.1 h with h|h
  .exact .inr ⟨x,List.mem_cons_self ..,h⟩
  .unfold Go.Lib.joinTail at h;obtain⟨y,hy,hb⟩:=List.mem_flatten.1 h;obtain⟨z,hz,rfl⟩:=List.mem_map.1 hy
   rcases List.mem_append.1 hb with hb|hb
   .exact .inl (by simpa using hb)
   .exact .inr ⟨z,List.mem_cons_of_mem _ hz,hb⟩
theorem e2r (d:Dic) (t:Bs):cl (revT d t):=by
 unfold revT
 split
 .unfold cl;decide
 .intro b hb
  rcases d0e 32 _ b hb with rfl|⟨x,hx,hb⟩
  .decide
  .obtain⟨o,_,rfl⟩:=List.mem_map.1 hx;obtain⟨y,hy,rfl⟩:=List.mem_map.1 hb;unfold fmtS at hy
   rcases d0e 47 _ y hy with rfl|⟨z,hz,hy⟩
   .decide
   .obtain⟨k,_,rfl⟩:=List.mem_map.1 hz;exact d8f k _ (List.mem_map_of_mem hy)
theorem c4w:∀{l:Dic},(∀e∈l,cl e.2)->cl (a3a o l)
 |[],_=>by unfold a3a;exact b4x
 |e::l,h=>by
  unfold a3a
  split
  .exact h e (List.mem_cons_self ..)
  .exact c4w λx hx=>h x (List.mem_cons_of_mem _ hx)
theorem dic_cl (h:dic d=true):∀e∈d,cl e.2:=λe he=>by
 have h1:=(a4d h).2.1 e he;unfold entry at h1;rw [Bool.and_eq_true]at h1;exact e3d h1.2
theorem c3k {r:Bs×Bool} (h:optB r=some x):r.2=true/\r.1=x:=by
 unfold optB at h
 split at h
 .rename_i hc;injection h with h;exact⟨hc,h⟩
 .cases h
theorem d3d (h:a0u more=some x):cl x:=by
 unfold a0u at h
 split at h
 .rename_i a b _
  obtain⟨h1,rfl⟩:=c3k h;intro c hc;have:=(a4m h1).2 c hc;unfold lower at this;unfold plainByte;simp only [Bool.and_eq_true,decide_eq_true_eq,Bool.not_eq_true',beq_eq_false_iff_ne]at this⊢;refine⟨by omega,?_⟩;rintro rfl;have h35:(35:UInt8).toNat=35:=rfl;omega
 .cases h
theorem d3f (hm:nh more) (h:b6s more=some x):cl x:=by
 unfold b6s at h
 split at h
 .injection h with h;rw [<-h];exact fmt_cl (d2q hm)
 .cases h
theorem c1k {l:List Int} (ht:trans s.1 s.2=true) (h:(typed s l).2=some x):cl x:=by
 have hk:=a7p (l:=l) ht;unfold typed at h hk
 cases hq:b1f s.1 s.2 l with
 |none=>rw [hq]at h;cases h
 |some t=>
  rw [hq]at h hk;injection h with h;rw [<-h];exact c7z (c0m (c9h (d:=s.1) (t:=t) hk))
theorem d0p (h:(a2x s o).2=some x):cl x:=by
 unfold a2x at h
 split at h
 .injection h with h;rw [<-h];exact c7z (c0m (by unfold b0r;exact d5x _ _))
 .cases h
theorem d0s (h:(a1h s more).2=some x):cl x:=by
 unfold a1h at h
 split at h
 .cases h
 .split at h
  .cases h
  .split at h
   .rename_i hc
    injection h with h;rw [<-h];refine c7z ?_;unfold a3j at hc⊢
    split at hc
    .rename_i h2
     rw [if_pos h2];exact c0m (d5x _ _)
    .cases hc
   .cases h
theorem e3u (ht:trans s.1 s.2=true) (h:(outl s word o).2=some x):cl x:=by
 unfold outl at h
 split at h
 .exact c1k ht h
 .split at h
  .exact d0p h
  .obtain⟨_,rfl⟩:=c3k h;unfold b5g
   split
   .exact c4w (dic_cl (b1v ht))
   .exact b4x
theorem e0j (ht:trans s.1 s.2=true) (h:(alone s word).2=some x):cl x:=by
 unfold alone at h
 split at h
 .exact c1k ht h
 .split at h
  .injection h with h;rw [<-h];exact c9h ht
  .split at h
   .injection h with h;rw [<-h];exact c8q _
   .split at h
    .injection h with h;rw [<-h];exact b4t (b4t (c8q _) (a4i dZ b4x)) (c8q _)
    .cases h
theorem e2l (ht:trans s.1 s.2=true) (hm:nh more) (h:(args s word more).2=some x):cl x:=by
 unfold args at h
 split at h
 .unfold a5w at h
  split at h
  .exact c1k ht h
  .cases h
 .split at h
  .unfold a6b at h
   split at h
   .cases h
   .exact e3u ht h
  .split at h
   .exact d0s h
   .split at h
    .have h':a4r s.1 more=some x:=h;unfold a4r at h'
     split at h'
     .injection h' with h';rw [<-h'];exact e2r _ _
     .cases h'
    .split at h
     .exact d3d h
     .split at h
      .exact d3f hm h
      .cases h
theorem cmd_cl {line:Bs} (ht:trans s.1 s.2=true) (hl:nh line) (h:(cmd s line).2=some x):cl x:=by
 unfold cmd at h
 split at h
 .exact e0j ht h
 .exact e2l ht (d4t hl _) h
theorem d1s {line:Bs} (ht:trans s.1 s.2=true) (hl:good line []=true):good line (a2s (cmd s line).2)=true:=by
 unfold good at hl⊢;simp only [Bool.and_eq_true]at hl⊢;obtain⟨h1,h2,h3,_⟩:=hl;refine⟨h1,h2,h3,?_⟩
 have hn:nh line:=by
  unfold plain at h2;simp only [Bool.and_eq_true,List.all_eq_true]at h2;intro b hb;have:=h2.1 b hb;unfold plainByte at this;simp only [Bool.and_eq_true,Bool.not_eq_true',beq_eq_false_iff_ne]at this;exact this.2
 have hlen:=b1b (cmd s line).2;unfold plain;simp only [Bool.and_eq_true,List.all_eq_true,decide_eq_true_eq];refine⟨?_,by omega⟩
 cases hq:(cmd s line).2 with
 |none=>
  intro b hb;have hb':b∈([63]:Bs):=hb;revert hb';simp only [List.mem_cons,List.not_mem_nil,or_false];rintro rfl;decide
 |some x=>
  have hx:=cmd_cl ht hn hq;unfold a2s
  split
  .intro b hb;cases hb with
   |head=>decide
   |tail _ hb=>revert b;decide
  .rename_i r hr
   injection hr with hr;subst hr
   split
   .have:∀b∈e3q,plainByte b=true:=by decide
    exact this
   .exact hx
theorem c5r (s:Bs):∀(n:Nat) (st:RSt),(∀e∈st.1,good e.1 e.2=true)->∀e∈(runI s n st).1,good e.1 e.2=true
 |0,_,h=>h
 |n+1,st,h=>by
  simp only [runI]
  cases hd:(decode st.1.length (s.drop st.2.2)).2.2
  .rw [a7a hd];exact h
  .rw [b2q hd];refine c5r s n _ λe he=>?_
   rcases List.mem_append.1 he with he|he
   .exact h e he
   .rw [List.mem_singleton]at he;rw [he];exact (a5k hd).2.1
theorem b4p (s:Bs):∀e∈(readAll s).1,good e.1 e.2=true:=c5r s 60 ([],[],0) λ_ h=>by cases h
def a2r (a:Ses×LogT):List (Bs×Bs)->Nat
 |[]=>0
 |r::rs=>if (exec a.1 a.2 r.1).2=r.2 then a2r (exec a.1 a.2 r.1).1 rs+1 else 0
theorem a7z {a:Ses×LogT} {r:Bs×Bs} {rs:List (Bs×Bs)} (h:(exec a.1 a.2 r.1).2=r.2):a2r a (r::rs)=a2r (exec a.1 a.2 r.1).1 rs+1:=by
 conv=>lhs;unfold a2r
 rw [if_pos h]
theorem b0l {a:Ses×LogT} {r:Bs×Bs} {rs:List (Bs×Bs)} (h:(exec a.1 a.2 r.1).2≠r.2):a2r a (r::rs)=0:=by
 unfold a2r;rw [if_neg h]
def ses0 (d:Dic):Ses×LogT:=((d,([],[])),([],[],0))
def a4a (d:Dic) (g:LogT):Nat×Bool:=if dic d&&a0j g.1 g.2.1 g.2.2 then (a2r (ses0 d) (readAll (g.1++g.2.1)).1,true) else (0,false)
theorem a9v (h:(dic d&&a0j g.1 g.2.1 g.2.2)=false):a4a d g=(0,false):=by unfold a4a;rw [h];rfl
theorem a7w (h:dic d=true) (h2:a0j g.1 g.2.1 g.2.2=true):a4a d g=(a2r (ses0 d) (readAll (g.1++g.2.1)).1,true):=by unfold a4a;rw [h,h2];rfl
theorem c0j (h:dic d=true):Fit (ses0 d).1 (ses0 d).2:=by
 have hl:=a4d h;refine⟨?_,λe he=>?_,λe he=>Nat.le_trans (b3l h e he) dZ,?_,?_,?_⟩
 .have:=hl.1;show d.length<=_;omega
 .have:=(a7y (hl.2.1 e he)).2.1;omega
 all_goals exact Nat.zero_le _
theorem d9s {d:Bs} (h:a0j d p n=true) (hg:good c r=true) (h6:n≠60):appS d p n c r=(p++line n.toNat c r,n+1,0):=by
 unfold appS;rw [h,hg,if_neg dZ,if_neg (by simpa using h6)]
theorem b8p {d:Bs} (h:a0j d p n=true):readAll (d++p)=((readAll (d++p)).1,(readAll (d++p)).2.1,(d++p).length)/\((readAll (d++p)).1.length:Int)=n:=by
 unfold a0j at h;simp only [Bool.and_eq_true,decide_eq_true_eq,beq_iff_eq,a1s]at h;obtain⟨_,v2,_,v4⟩:=h;refine⟨?_,v4⟩;have:(readAll (d++p)).2.2=(d++p).length:=by rw [List.length_append];omega
 rw [<-this]
theorem e0w {d:Bs} (h:a0j d p n=true) (hg:good c r=true) (h6:n≠60):(readAll (d++(p++line n.toNat c r))).1=(readAll (d++p)).1++[(c,r)]:=by
 obtain⟨h1,h2,_⟩:=a8f h;obtain⟨e0,e1⟩:=b8p h;obtain⟨ends,e2⟩:=d0j e0 oZ hg;have hn:(readAll (d++p)).1.length=n.toNat:=by omega
 rw [hn]at e2;rw [<-List.append_assoc,e2]
def recs (g:LogT):List (Bs×Bs):=(readAll (g.1++g.2.1)).1
theorem e0e (h:b0k s g=true):((recs g).length:Int)=g.2.2:=(b8p (a3d h).2).2
theorem c7o (c:Bs) (h:b0k s g=true) :
 ((exec s g c).1=(s,g)/\((exec s g c).2=wBad\/(exec s g c).2=e5c)) \/
 (b0k (exec s g c).1.1 (exec s g c).1.2=true/\recs (exec s g c).1.2=recs g++[(c,(exec s g c).2)]/\(exec s g c).1.2≠g/\(exec s g c).1.2.2.2=g.2.2+1/\(exec s g c).1.2.1=g.1/\(exec s g c).1.2.2.1=g.2.1++line g.2.2.toNat c (exec s g c).2):=by
 by_cases h2:good c []=true
 .by_cases h3:g.2.2=60
  .rw [a9j h h2 h3];exact .inl ⟨rfl,.inr rfl⟩
  .obtain⟨ht,hv⟩:=a3d h;have hg:=d1s (line:=c) ht h2;rw [b2r h h2 h3];have ha:=d9s hv hg h3
   have hlog:b0w g c (a2s (cmd s c).2)=(g.1,g.2.1++line g.2.2.toNat c (a2s (cmd s c).2),g.2.2+1):=by
    unfold b0w;rw [ha]
   refine .inr ⟨?_,?_,?_,?_,?_,?_⟩
   .unfold b0k sess;simp only [Bool.and_eq_true];exact⟨b2u ht,(d1i hv).1⟩
   .show recs (b0w g c (a2s (cmd s c).2))=_
    rw [hlog];exact e0w hv hg h3
   .show b0w g c (a2s (cmd s c).2)≠g
    rw [hlog];intro e;have:=congrArg (λx:LogT=>x.2.2) e;simp only at this;omega
   .show (b0w g c (a2s (cmd s c).2)).2.2=_;rw [hlog]
   .rfl
   .show (b0w g c (a2s (cmd s c).2)).2.1=_;rw [hlog]
 .rw [b2t h (by simpa using h2)];exact .inl ⟨rfl,.inl rfl⟩
def runR:Ses×LogT->List (Bs×Bs)->Option (Ses×LogT)
 |a,[]=>some a
 |a,r::rs=>if (exec a.1 a.2 r.1).2=r.2 then runR (exec a.1 a.2 r.1).1 rs else none
theorem b2v (a:Ses×LogT) (r:Bs×Bs) (rs:List (Bs×Bs)):runR a (r::rs)=if (exec a.1 a.2 r.1).2=r.2 then runR (exec a.1 a.2 r.1).1 rs else none:=rfl
theorem c0f:∀(l m:List (Bs×Bs)) (a:Ses×LogT),runR a (l++m)=(runR a l).bind λb=>runR b m
 |[],m,a=>rfl
 |r::l,m,a=>by
  rw [List.cons_append,b2v,b2v]
  split
  .exact c0f l m _
  .rfl
theorem b9x:∀{l:List (Bs×Bs)} {a b:Ses×LogT},runR a l=some b->a2r a l=l.length
 |[],a,b,_=>rfl
 |r::l,a,b,h=>by
  rw [b2v]at h
  split at h
  .rename_i hc
   rw [a7z hc,b9x h];rfl
  .cases h
def a8m (d:Dic) (a:Ses×LogT):Prop:=b0k a.1 a.2=true/\runR (ses0 d) (recs a.2)=some a
theorem b8h (h:dic d=true):a8m d (ses0 d):=⟨e4p h,rfl⟩
theorem c1q {a:Ses×LogT} (h:a8m d a) (c:Bs):a8m d (exec a.1 a.2 c).1:=by
 obtain⟨h1,h2⟩:=h
 rcases c7o c h1 with⟨e,_⟩|⟨h3,h4,_⟩
 .rw [e];exact⟨h1,h2⟩
 .refine⟨h3,?_⟩;rw [h4,c0f,h2]
  show runR a [(c,(exec a.1 a.2 c).2)]=_
  rw [b2v,if_pos rfl];rfl
theorem a9h {a:Ses×LogT} (h:a8m d a) (k:Nat):a2r (ses0 d) ((recs a.2).take k)=((recs a.2).take k).length:=by
 have h2:=h.2;rw [<-List.take_append_drop k (recs a.2),c0f]at h2
 cases hq:runR (ses0 d) ((recs a.2).take k) with
 |none=>rw [hq]at h2;cases h2
 |some b=>exact b9x hq
theorem d2d (s:Bs):(a1i s).2<=s.length/\(a1i s).1.length<=60:=by
 rw [a1s];exact⟨c0y s 60 ([],[],0) (Nat.zero_le _),(a4o s).1⟩
def recover (s:Bs):Bs×Int×Int×Bool:=
 if s.length<=30000 then (s.take (a1i s).2,((a1i s).1.length:Int),((a1i s).2:Int),true) else ([],0,0,false)
theorem c2q (s:Bs):readAll (s.take (readAll s).2.2)=readAll s:=by
 have hle:(readAll s).2.2<=s.length:=c0y s 60 ([],[],0) (Nat.zero_le _)
 have h:=c8t (s.take (readAll s).2.2) (s.drop (readAll s).2.2) 60 ([],[],0) (Nat.zero_le _) (by
  rw [List.take_append_drop,List.length_take]
  show (readAll s).2.2<=_
  omega)
 rw [List.take_append_drop]at h;exact h
theorem d1m (s:Bs) (hs:s.length<=30000):a0j (s.take (a1i s).2) [] ((a1i s).1.length:Int)=true:=by
 have h1:=c2q s;have hle:(readAll s).2.2<=s.length:=c0y s 60 ([],[],0) (Nat.zero_le _);unfold a0j;rw [a1s s];simp only [List.append_nil];rw [a1s,h1];have hm:(s.take (readAll s).2.2).length=(readAll s).2.2:=by rw [List.length_take];omega
 simp only [hm,List.length_nil,Bool.and_eq_true,decide_eq_true_eq,beq_iff_eq];refine⟨by omega,by omega,trivial,trivial⟩
theorem e3f {a:Ses×LogT} (hd:dic d=true) (h:a8m d a):∃t:Nat,a4a d a.2=(t,true)/\(t:Int)=a.2.2.2:=by
 have hv:=(a3d h.1).2;refine⟨(recs a.2).length,?_,e0e h.1⟩;rw [a7w hd hv];have hf:=a9h h (recs a.2).length;rw [List.take_length]at hf;exact congrArg (λk=>(k,true)) hf
theorem e0s {a:Ses×LogT} (hd:dic d=true) (h:a8m d a) {keep:Int} (h0:0<=keep) (h1:keep<=(a.2.2.1.length:Int)) :
 ∃(b q:Bs) (c k:Nat),a8r a.2.1 a.2.2.1 a.2.2.2 keep false=(b,true)/\b.length<=30000/\recover b=(q,(c:Int),(k:Int),true)/\q.length<=30000/\a4a d (q,[],(c:Int))=(c,true):=by
 have hv:=(a3d h.1).2
 obtain⟨_,_,hlen⟩:=a8f hv
 have hb:(a.2.1++a.2.2.1.take keep.toNat).length<=30000:=by rw [List.length_append,List.length_take];omega
 generalize hbb:a.2.1++a.2.2.1.take keep.toNat=b at hb
 refine⟨b,b.take (a1i b).2,(a1i b).1.length,(a1i b).2,?_,hb,?_,?_,?_⟩
 .have e1:(a1t a.2.1 a.2.2.1 a.2.2.2&&decide (0<=keep/\keep<=(a.2.2.1.length:Int)))=true:=by
   rw [a3y,hv,Bool.true_and];exact decide_eq_true ⟨h0,h1⟩
  unfold a8r;rw [if_pos e1,Bool.false_and,if_neg Bool.false_ne_true,hbb]
 .unfold recover;rw [if_pos hb]
 .rw [List.length_take];omega
 .rw [a7w (g:=(b.take (a1i b).2,[],((a1i b).1.length:Int))) hd (d1m b hb)]
  show (a2r (ses0 d) (readAll (b.take (a1i b).2++[])).1,true)=_
  have e1:readAll (b.take (a1i b).2++[])=readAll b:=by rw [List.append_nil,a1s];exact c2q b
  rw [e1,a1s];obtain⟨x,hx⟩:∃x,a.2.1++a.2.2.1=b++x:=⟨a.2.2.1.drop keep.toNat,by rw [<-hbb,List.append_assoc,List.take_append_drop]⟩;obtain⟨⟨l,hl⟩,_⟩:=c2s b x 60 ([],[],0) (Nat.zero_le _);have hr:recs a.2=(readAll b).1++l:=by unfold recs;rw [hx];exact hl
  have hf:=a9h h (readAll b).1.length;rw [hr,List.take_left]at hf;exact congrArg (λk=>(k,true)) hf
end Go.Proofs.YtggfdnopminemaaGreatDoor.P
namespace Go.Proofs.YtggfdnopminemaaGreatDoor.L
open Go.Proofs.Tryz
open Go Go.RowKit
set_option maxHeartbeats 8000000
set_option maxRecDepth 100000
def b8l (g:Nat) (l:List (Str×Str)) (v:World):Prop:=
 ∀(j:Nat) (h:j<l.length),v.cell? ⟨g,j*2,none⟩=some (.string (S (l[j]'h).1))/\v.cell? ⟨g,j*2+1,none⟩=some (.string (S (l[j]'h).2))/\v.frozen? ⟨g,j*2,none⟩=false/\v.frozen? ⟨g,j*2+1,none⟩=false
def RowR (u:Value) (g:Nat) (l:List (Str×Str)) (v:World):Prop:=
 ∃ad cap,u=.slice ad l.length cap/\l.length<2^40/\(l=[]\/ad=some ⟨g,0,none⟩/\g<v.heap.size/\b8l g l v)
theorem b8l.carry {g:Nat} {l:List (Str×Str)} {v v':World} (h:b8l g l v) (hb:Bl v v') (hg:g<v.heap.size):b8l g l v':=by
 intro j hj;obtain⟨a,b,c,d⟩:=h j hj;exact⟨(hb.cell (p:=⟨g,_,none⟩) hg).trans a,(hb.cell (p:=⟨g,_,none⟩) hg).trans b,(hb.frozen (p:=⟨g,_,none⟩) hg).trans c,(hb.frozen (p:=⟨g,_,none⟩) hg).trans d⟩
end Go.Proofs.YtggfdnopminemaaGreatDoor.L
namespace Go.Proofs.YtggfdnopminemaaGreatDoor.L
open Go.Proofs.Tryz
open Go Go.RowKit
set_option maxHeartbeats 8000000
set_option maxRecDepth 100000
variable {g i:Nat} {v w:Go.World}
def c0q (g:Nat) (w w':World):Prop:=
 (∀b o,b<w.heap.size->b≠g->w'.cell? ⟨b,o,none⟩=w.cell? ⟨b,o,none⟩)/\(∀b o,b<w.heap.size->b≠g->w'.frozen? ⟨b,o,none⟩=w.frozen? ⟨b,o,none⟩)
theorem c0q.refl (g:Nat) (w:World):c0q g w w:=⟨λ_ _ _ _=>rfl,λ_ _ _ _=>rfl⟩
theorem c0q.below {v':World} (h:c0q g w v) (hsz:w.heap.size<=v.heap.size) (hb:Bl v v'):c0q g w v':=
 ⟨λb o h1 h2=>(hb.cell (p:=⟨b,o,none⟩) (Nat.lt_of_lt_of_le h1 hsz)).trans (h.1 b o h1 h2),λb o h1 h2=>(hb.frozen (p:=⟨b,o,none⟩) (Nat.lt_of_lt_of_le h1 hsz)).trans (h.2 b o h1 h2)⟩
theorem c0q.set {o:Nat} (h:c0q g w v) (u:Value):c0q g w (v.setCell ⟨g,o,none⟩ u):=
 ⟨λb o' h1 h2=>(World.cell?_setCell_other _ _ _ _ (by intro e;injection e;omega)).trans (h.1 b o' h1 h2),λb o' h1 h2=>by rw [<-h.2 b o' h1 h2];simp⟩
theorem b8l.set1 {m:List (Str×Str)} (h:b8l g m v) (hi:i<m.length) (a:Str):b8l g (m.set i (a,m[i].2)) (v.setCell ⟨g,i*2,none⟩ (.string (S a))):=by
 intro j hj;have hj':j<m.length:=by simpa using hj
 obtain⟨p1,p2,p3,p4⟩:=h j hj';rw [List.getElem_set];refine⟨?_,?_,by simpa using p3,by simpa using p4⟩
 .by_cases e:i=j
  .subst e;rw [if_pos rfl];exact World.cell?_setCell_same _ _ _ p1
  .rw [if_neg e,World.cell?_setCell_other _ _ _ _ (by intro e';injection e';omega)];exact p1
 .rw [World.cell?_setCell_other _ _ _ _ (by intro e';injection e';omega)]
  by_cases e:i=j
  .subst e;rw [if_pos rfl];exact p2
  .rw [if_neg e];exact p2
theorem b8l.set2 {m:List (Str×Str)} (h:b8l g m v) (hi:i<m.length) (a:Str):b8l g (m.set i (m[i].1,a)) (v.setCell ⟨g,i*2+1,none⟩ (.string (S a))):=by
 intro j hj;have hj':j<m.length:=by simpa using hj
 obtain⟨p1,p2,p3,p4⟩:=h j hj';rw [List.getElem_set];refine⟨?_,?_,by simpa using p3,by simpa using p4⟩
 .rw [World.cell?_setCell_other _ _ _ _ (by intro e';injection e';omega)]
  by_cases e:i=j
  .subst e;rw [if_pos rfl];exact p1
  .rw [if_neg e];exact p1
 .by_cases e:i=j
  .subst e;rw [if_pos rfl];exact World.cell?_setCell_same _ _ _ p2
  .rw [if_neg e,World.cell?_setCell_other _ _ _ _ (by intro e';injection e';omega)];exact p2
end Go.Proofs.YtggfdnopminemaaGreatDoor.L
namespace Go.Proofs.YtggfdnopminemaaGreatDoor.P
open Go.Proofs.Tryz
def c6i (d p:Bs) (n:Int):List (Bs×Bs):=if a0j d p n then (a1i (d++p)).1 else []
end Go.Proofs.YtggfdnopminemaaGreatDoor.P
namespace Go.Proofs.YtggfdnopminemaaGreatDoor.L
open Go.Proofs.Tryz
open Go Go.RowKit
set_option maxHeartbeats 8000000
set_option maxRecDepth 100000
variable {g:Nat} {u:Go.Value} {v v':Go.World}
def RecS (d p:Str) (n:Int) (w:World) (e:Ending) (w':World):Prop:=∃v,e=.returned (.tuple #[v,.bool (P.a0j d p n)])/\a4n w.heap.size w' v (P.c6i d p n)/\Bl w w'
theorem c5e (d p:Str) (n:Int) (w:World) (hd:d.length<=2^20) (hp:p.length<=2^20) :
 Cz 59 #[logV d p n] w (RecS d p n w):=by
 cases h1:P.a0j d p n
 .have HF:=qh (show P.c6i d p n=[] by unfold P.c6i;rw [h1];rfl);have HV:=qh h1;go_enter func59,ntmps59;go_wp2_with fail;refine zm80 ?_;rintro e w1 ⟨rfl,hb⟩;rw [h1];have HB:=qh ((bZ.alloc lZ _).trans (hb.mono sZ):Bl w w1);have hsz:w.heap.size<=w1.heap.size:=HB.o.size;clear hb;go_wp2;go_ret2;exact⟨.slice (some ⟨w1.heap.size,0,none⟩) 0 0,by rw [HV.o];rfl,by rw [HF.o];exact World.ownsRow_made _ _ _ hsz dZ (by rfl),HB.o.alloc hsz _⟩
 .have HF:=qh (show P.c6i d p n=(P.a1i (d++p)).1 by unfold P.c6i;rw [h1];rfl);have HV:=qh h1;go_enter func59,ntmps59;go_wp2_with fail;refine zm80 ?_;rintro e w1 ⟨rfl,hb⟩;rw [h1];obtain⟨hcc,hff⟩:=a6a hb;have hz:=c5a hb;have HB:=qh ((bZ.alloc lZ _).trans (hb.mono sZ):Bl w w1);have hsz:w.heap.size<=w1.heap.size:=HB.o.size;have f1:¬9223372036854775807<d.length+p.length:=by omega
  clear hb;go_wp2_with fail;refine (c5z _ _ (by simp;omega)).mono ?_;rintro e w2 ⟨v,rfl,hown,hb⟩;have HO:=qh hown;clear hown;have HB2:=qh (HB.o.trans (hb.mono hsz));clear hb;go_wp2;go_ret2;exact⟨v,by rw [HV.o];rfl,by rw [HF.o];exact a2g HO.o hsz,HB2.o⟩
theorem b8b (l:List (Str×Str)) (j:Nat) (h:j<l.length):(a9p l)[j*2]?=some (.string (S l[j].1))/\(a9p l)[j*2+1]?=some (.string (S l[j].2)):=by
 induction l generalizing j with
 |nil=>simp at h
 |cons x l ih=>
  cases j with
  |zero=>exact⟨rfl,rfl⟩
  |succ j=>
   have:=ih j (by simpa using h);simp only [a9p,List.flatMap_cons]at this⊢;rw [show (j+1)*2=j*2+1+1 by omega]
   simpa using this
theorem d6f {B:Nat} {w:World} {v:Value} {l:List (Str×Str)} (h:a4n B w v l) (hl:l.length<=1000):∃g,RowR v g l w/\(l=[]\/B<=g/\g<w.heap.size):=by
 rcases h.2 with⟨hv,h0⟩|⟨g,cap,cur,hv,hg,hh,_⟩
 .have hn:=List.eq_nil_of_length_eq_zero h0;exact⟨0,⟨none,0,by rw [hv,hn];rfl,by omega,.inl hn⟩,.inl hn⟩
 .have hob:v.ownBlock=some g:=by rw [hv];rfl
  have hlt:=(World.ownsRow.lt h g hob).2;refine⟨g,⟨some ⟨g,0,none⟩,cap,hv,by omega,.inr ⟨rfl,hlt,?_⟩⟩,.inr ⟨hg,hlt⟩⟩;intro j hj;obtain⟨e1,e2⟩:=b8b l j hj;have c1:=World.ownsRow.cells h hob _ _ e1;have c2:=World.ownsRow.cells h hob _ _ e2;rw [add0]at c1 c2;exact⟨c1,c2,by simp [World.frozen?,hh],by simp [World.frozen?,hh]⟩
theorem RowR.carry {l:List (Str×Str)} (h:RowR u g l v) (hb:Bl v v'):RowR u g l v':=by
 obtain⟨ad,cap,h1,h2,h3⟩:=h;exact⟨ad,cap,h1,h2,h3.imp id (λh=>⟨h.1,Nat.lt_of_lt_of_le h.2.1 hb.size,h.2.2.carry hb h.2.1⟩)⟩
theorem RowR.apart {g':Nat} {l:List (Str×Str)} (h:RowR u g l v) (hb:c0q g' v v') (hne:l=[]\/g≠g') (hz:v.heap.size<=v'.heap.size):RowR u g l v':=by
 obtain⟨ad,cap,h1,h2,h3⟩:=h;refine⟨ad,cap,h1,h2,?_⟩
 rcases hne with hne|hne
 .exact .inl hne
 .refine h3.imp id (λh=>⟨h.1,Nat.lt_of_lt_of_le h.2.1 hz,?_⟩);intro j hj;obtain⟨a,b,c,d⟩:=h.2.2 j hj;exact⟨(hb.1 _ _ h.2.1 hne).trans a,(hb.1 _ _ h.2.1 hne).trans b,(hb.2 _ _ h.2.1 hne).trans c,(hb.2 _ _ h.2.1 hne).trans d⟩
end Go.Proofs.YtggfdnopminemaaGreatDoor.L
