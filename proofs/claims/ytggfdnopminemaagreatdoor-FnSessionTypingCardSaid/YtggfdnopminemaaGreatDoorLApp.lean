/- Walks: the records of a log (program). -/
import Derived.Test.YtggfdnopminemaaGreatDoorZt
import Derived.Test.YtggfdnopminemaaGreatDoorLAppend
set_option linter.all false
namespace Go.Proofs.YtggfdnopminemaaGreatDoor.L
open Go Go.RowKit
set_option maxHeartbeats 8000000
set_option maxRecDepth 100000
theorem d4u (w:World) (B:Nat) (hB:B≤w.heap.size) (x:Int):a3q B (w.alloc (.cells #[.int .i64 x] 3)) (.slice (some ⟨w.heap.size,0,none⟩) 1 1) [x]:=
 ⟨by simp [a4x],.inr ⟨w.heap.size,1,_,rfl,hB,heap_alloc_new w _,Nat.le_refl _,by decide,by simp,by simp [a4x]⟩⟩
theorem c7y {B:Nat} {w:World} {v:Value} {l:List Int} (h:a3q B w v l) (hl:l≠[]):∃g cap,v=.slice (some ⟨g,0,none⟩) l.length cap∧B≤g∧g<w.heap.size∧∀j (hj:j<l.length),w.cell? ⟨g,j,none⟩=some (.int .i64 l[j]):=by
 rcases h.2 with⟨_,h0⟩|⟨g,cap,cur,hv,hg,hh,_⟩
 ·exact absurd (List.eq_nil_of_length_eq_zero h0) hl
 ·have hob:v.ownBlock=some g:=by rw [hv];rfl
  refine⟨g,cap,hv,hg,(World.ownsRow.lt h g hob).2,fun j hj=>?_⟩;have hc:=World.ownsRow.cells h hob j (.int .i64 l[j]) (by simp [a4x,List.getElem?_eq_getElem hj])
  rwa [add0]at hc
theorem d1d {B:Nat} {w:World} {v:Value} {l:List Int} (h:a3q B w v l):b5r w 1 v l.length (a4x l):=by
 refine⟨by simp [a4x],by intro x hx;simp [a4x]at hx;obtain⟨y,_,rfl⟩:=hx;rfl,?_⟩
 rcases h.2 with⟨hv,h0⟩|⟨g,cap,cur,hv,hg,hh,_⟩
 ·exact .inl ⟨hv,h0⟩
 ·have hob:v.ownBlock=some g:=by rw [hv];rfl
  exact .inr ⟨⟨g,0,none⟩,cap,hv,World.ownsRow.cells h hob⟩
theorem a1n {B C:Nat} {w:World} {e:TypeId} {s:Nat} {v:Value} {n:Nat} {xs:List Value} (h:w.ownsRow B e s v n xs) (hC:C≤B):w.ownsRow C e s v n xs:=by
 refine⟨h.1,?_⟩
 rcases h.2 with h2|⟨g,cap,cur,hv,hg,r⟩
 ·exact .inl h2
 ·exact .inr ⟨g,cap,cur,hv,Nat.le_trans hC hg,r⟩
def c2i (d p:Str) (n:Int) (w:World) (e:Ending) (w':World):Prop:=∃v,e=.returned (.tuple #[v,.bool (P.a1q d p n)])∧a5y w.heap.size w' v (P.readAll (d++p)).1∧Below w.heap.size w w'
theorem records (d p:Str) (n:Int) (w:World) (hd:d.length≤2^20) (hp:p.length≤2^20) (hE:Env w) :
 Calls Tryz.prog 56 #[logV d p n] w (c2i d p n w):=by
 obtain⟨j0,ji,jz0,jz1,jz2⟩:=info_parts a1z
 have HE:=qh hE;clear hE
 go_enter Tryz.func56,Tryz.ntmps56
 go_wp2_with fail
 refine (read _ _ (by simp;omega) (HE.o.alloc _)).mono ?_
 rintro e w1 ⟨v,u,rfl,hown,howi,hb⟩
 obtain⟨ad,cp,rfl⟩:=b9w hown
 obtain⟨hcc,hff⟩:=c0p hb
 have hz:=d1k hb
 have hk0:w1.cell? ⟨w.heap.size,0,none⟩=some (.string (S d)):=by rw [hcc _ _ sZ];go_simp
 have hk2:w1.cell? ⟨w.heap.size,2,none⟩=some (.int .i64 n):=by rw [hcc _ _ sZ];go_simp
 have HOWN:=qh hown;have HOWI:=qh howi;have HB:=qh hb
 clear hown howi hb hcc hff
 have hrl:=P.b3e (d++p)
 generalize hR:P.readAll (d++p)=R at *
 obtain⟨hrl1,hrl2⟩:=hrl
 have HRL2:=qh hrl2
 have hrl3:R.2.1.length≤60:=by omega
 clear hrl2
 have HRR:=qh hR;clear hR
 go_wp2_with (at_builtin;refine a0z rfl (.tmp 21) (.tmp 22) 33 rfl w.heap.size 3 j0 (.int .i64 0) 1 8 Tryz.underlying33 ji jz0 jz1 jz2 rfl dZ _ _ _ rfl (d4u w1 w.heap.size (Nat.le_of_lt hz) 0) _ _ _ rfl (d1d (World.ownsRow.alloc HOWI.o _)) ?c3 ?c4 ?c5 ?_)
 case c3=>unfold maxLen;simp;omega
 case c4=>simp;omega
 case c5=>simp;omega
 intro v' w2 hown' hgrow _
 rw [show (Value.slice (some ⟨w1.heap.size,0,none⟩) 1 1).ownBlock=some w1.heap.size from rfl]at hgrow
 obtain⟨st,hst⟩:∃st:List Int,st=0::R.2.1:=⟨_,rfl⟩
 have hstl:st.length≤61:=by rw [hst];simp;omega
 have hstn:st≠[]:=by rw [hst];simp
 have hS:a3q w.heap.size w2 v' st:=by rw [hst];unfold a3q;rw [List.length_cons,Nat.add_comm];simpa [a4x] using hown'
 obtain⟨g,cp2,rfl,hg,hgl,hcell⟩:=c7y hS hstn
 have hk0':w2.cell? ⟨w.heap.size,0,none⟩=some (.string (S d)):=hgrow.cell (b4o hk0 _) (by show some w.heap.size≠some w1.heap.size;intro e;injection e with e;omega)
 have hk2':w2.cell? ⟨w.heap.size,2,none⟩=some (.int .i64 n):=hgrow.cell (b4o hk2 _) (by show some w.heap.size≠some w1.heap.size;intro e;injection e with e;omega)
 have hO:a5y w.heap.size w2 (.slice ad R.1.length cp) R.1:=World.ownsRow.kept (World.ownsRow.alloc (a1n HOWN.o sZ) _) hgrow (by
  cases hb:(Value.slice ad R.1.length cp).ownBlock with
  |none=>exact .inl rfl
  |some k=>exact .inr (by intro e;injection e with e;have:=(World.ownsRow.lt HOWN.o k hb).2;omega))
 have hB:Below w.heap.size w w2:=((((bZ.alloc lZ _).trans (HB.o.mono sZ)).alloc (Nat.le_of_lt hz) _).grown hgrow (by simp;omega) (fun k hk=>by injection hk with hk;omega))
 have HO:=qh hO;have HBB:=qh hB;have HST:=qh hst;have HCELL:=qh hcell
 clear hO hB hst hcell hS HB HOWN HOWI hgrow hown' hk0 hk2 hrl1
 go_wp2
 go_loop [8,10,26] (fun dr _ i=>∃k:Nat,k≤st.length∧i=.int .i64 k∧dr=.bool ((st.take k).any fun x=>x==(d.length:Int))) (fun _ _ i=>st.length-(intOf i).toNat)
 case atStart=>exact⟨0,Nat.zero_le _,rfl,by simp⟩
 case round=>
  obtain⟨k,hk,rfl,rfl⟩:=hrel;generalize hg0:(st.take k).any (fun x=>x==(d.length:Int))=dr at *;have HDR:=qh hg0;clear hg0
  by_cases hlt:k<st.length
  ·have hck:=HCELL.o k hlt;have HSN:=qh (show (st.take (k+1)).any (fun x=>x==(d.length:Int))=(dr||(st[k]==(d.length:Int))) by rw [a0h st k hlt,List.any_append,HDR.o];simp only [List.any_cons,List.any_nil,Bool.or_false])
   cases dr
   ·exact zq81
   ·exact zq81
  ·have hkk:k=st.length:=by omega
   have HDR2:=qh (show st.any (fun x=>x==(d.length:Int))=dr by rw [←HDR.o,List.take_of_length_le oZ]);clear hkk;obtain⟨m,hm⟩:∃m,m=st.length-1:=⟨_,rfl⟩;have hm1:m<st.length:=by have:=List.length_pos_iff.2 hstn;omega
   have hcl:=HCELL.o m hm1;obtain⟨x,hx⟩:∃x,x=st[m]:=⟨_,rfl⟩;rw [←hx]at hcl;have hxx:st[st.length-1]?.getD 0=x:=by rw [←hm,List.getElem?_eq_getElem hm1,hx];rfl
   have hF:P.a1q d p n=(dr&&((x==(d.length:Int)+p.length)&&(n==(R.1.length:Int)))):=by
    unfold P.a1q P.a8x;rw [HRR.o,←HST.o,HDR2.o,hxx];simp
   have HF0:=qh hF;have i1:IntKind.i64.wrap ((st.length:Int)-1)=(st.length:Int)-1:=IntWalk.i64_in _ oZ;have i2:0≤(st.length:Int)-1:=by omega
   have i3:((st.length:Int)-1).toNat=m:=by omega
   have i4:(st.length:Int)-1<(st.length:Int):=by omega
   clear hm hm1 hx hxx hF HCELL
   have finish:∀q b,P.a1q d p n=b→c2i d p n w (.returned (.tuple #[.slice ad R.1.length cp,.bool b])) (w2.drewN q):=by
    intro q b hb;refine⟨.slice ad R.1.length cp,by rw [hb],?_,?_⟩
    ·rw [HRR.o];exact a2g HO.o (below_drewN (Below.refl w2.heap.size _) _) lZ
    ·exact below_drewN HBB.o _
   have FIN:=qh finish;clear finish
   cases dr
   ·have HF:=qh (show P.a1q d p n=false by rw [HF0.o];rfl)
    go_wp2_with fail
    go_quiet (fail)
    go_wp2;go_ret2;exact FIN.o _ _ HF.o
   ·cases h5:(x==(d.length:Int)+p.length)
    ·have HF:=qh (show P.a1q d p n=false by rw [HF0.o,h5];rfl)
     go_wp2_with fail
     go_quiet (fail)
     go_wp2;go_ret2;exact FIN.o _ _ HF.o
    ·cases h6:(n==(R.1.length:Int))
     all_goals
      have HF:=qh (show P.a1q d p n=_ by rw [HF0.o,h5,h6])
      go_wp2_with fail
      go_quiet (fail)
      go_wp2
      go_ret2
      exact FIN.o _ _ HF.o
theorem a5f (d p:Str) (n:Int) (w:World) (hd:d.length≤2^20) (hp:p.length≤2^20) (hE:Env w) :
 Calls Tryz.prog 73 #[logV d p n] w fun e w'=>e=.returned (.bool (P.a1q d p n))∧Below w.heap.size w w':=by
 have HE:=qh hE;clear hE
 go_enter Tryz.func73,Tryz.ntmps73
 go_wp2_with fail
 refine (records _ _ _ _ hd hp (HE.o.alloc _)).mono ?_
 rintro e w1 ⟨v,rfl,_,hb⟩
 go_wp2
 go_ret
 exact⟨rfl,(bZ.alloc lZ _).trans (hb.mono sZ)⟩
end Go.Proofs.YtggfdnopminemaaGreatDoor.L
namespace Go.Proofs.YtggfdnopminemaaGreatDoor
namespace P
theorem c3o {d:Dic} {t:Tr} (h:trans d t=true):dic d=true:=by
 exact zq54
def sess (l:Dic) (st:List Int) (sc d p:Bs) (n:Int):Bool:=trans l (st,sc)&&a2n d p n
end P
open Go Go.RowKit
set_option maxHeartbeats 8000000
set_option maxRecDepth 100000
theorem a8f (u us:Value) (l:P.Dic) (st:List Int) (sc d p:Str) (n:Int) (w:World) (hu:EntR w u l) (hus:IntR w us st) (hm:Small l) (hd:d.length≤2^20) (hp:p.length≤2^20) (hE:L.Env w) :
 Calls Tryz.prog 45 #[a7w u us sc d p n] w fun e w'=>e=.returned (.bool (P.sess l st sc d p n))∧Below w.heap.size w w':=by
 have hb0:=(Below.refl w.heap.size w).alloc lZ (a0r u us sc d p n)
 have HU:=qh (hu.below hb0);have HUS:=qh (hus.below hb0);have HX:=qh (SBox.new u us sc d p n w);have HE:=qh (hE.below hb0 hE.size);have HB:=qh hb0
 clear hb0 hE
 obtain⟨ad,cap,rfl,_,_⟩:=hu
 obtain⟨sd,sap,rfl,_,_⟩:=hus
 go_enter Tryz.func45,Tryz.ntmps45
 go_upto_region 1 with fail
 generalize w.alloc (a0r (.slice ad l.length cap) (.slice sd st.length sap) sc d p n)=v0 at *
 obtain⟨c0,c1,c2,c3,c4,c5,_⟩:=HX.o
 go_wp2_with fail
 refine (a1x _ _ l st sc _ HU.o HUS.o hm HE.o.dic).mono ?_
 rintro e w1 ⟨rfl,hb⟩
 have HX1:=qh (HX.o.below hb);have HE1:=qh (HE.o.below hb HE.o.size);have HB1:=bt HB hb
 have HP:=qh (show P.sess l st sc d p n=(P.trans l (st,sc)&&P.a2n d p n) from rfl)
 clear hb c0 c1 c2 c3 c4 c5 HX HE HB HU HUS
 generalize P.trans l (st,sc)=q at *
 obtain⟨c0,c1,c2,c3,c4,c5,_⟩:=HX1.o
 cases q
 ·go_wp2;go_ret;exact⟨by rw [HP.o];rfl,HB1.o⟩
 ·go_wp2_with fail
  refine (L.a5f d p n _ hd hp HE1.o).mono ?_;rintro e w2 ⟨rfl,hb⟩;rw [P.a5p];have HB2:=bt HB1 hb;clear hb;go_wp2;go_ret;exact⟨by rw [HP.o];rfl,HB2.o⟩
def SOut (b:Nat) (u us:Value) (sc d p:Str) (n:Int) (v:World):Prop:=
 SBox b u us sc d p n v∧v.frozen? ⟨b,0,none⟩=false∧v.frozen? ⟨b,1,none⟩=false∧v.frozen? ⟨b,2,none⟩=false∧v.frozen? ⟨b,3,none⟩=false∧v.frozen? ⟨b,4,none⟩=false∧v.frozen? ⟨b,5,none⟩=false
theorem SOut.a0c {b:Nat} {u us:Value} {sc d p:Str} {n:Int} {v v':World} {X:Blk} (h:SOut b u us sc d p n v) (hc:Chg X v v') (hX:¬X b):SOut b u us sc d p n v':=by
 obtain⟨h0,f0,f1,f2,f3,f4,f5⟩:=h;have hb:=h0.2.2.2.2.2.2;exact⟨h0.a0c hc hX,(hc.frozen (p:=⟨b,0,none⟩) hb hX).trans f0,(hc.frozen (p:=⟨b,1,none⟩) hb hX).trans f1,(hc.frozen (p:=⟨b,2,none⟩) hb hX).trans f2,(hc.frozen (p:=⟨b,3,none⟩) hb hX).trans f3,(hc.frozen (p:=⟨b,4,none⟩) hb hX).trans f4,(hc.frozen (p:=⟨b,5,none⟩) hb hX).trans f5⟩
theorem SOut.below {b:Nat} {u us:Value} {sc d p:Str} {n:Int} {v v':World} (h:SOut b u us sc d p n v) (hb:Below v.heap.size v v'):SOut b u us sc d p n v':=h.a0c (Below.chg hb fun _=>False) fun h=>h
theorem SOut.new (u us:Value) (sc d p:Str) (n:Int) (v:World):SOut v.heap.size u us sc d p n (v.alloc (a0r u us sc d p n)):=by
 refine⟨SBox.new _ _ _ _ _ _ _,?_,?_,?_,?_,?_,?_⟩<;>go_simp
theorem SOut.set0 {b:Nat} {u us x:Value} {sc d p:Str} {n:Int} {v:World} (h:SOut b u us sc d p n v):SOut b x us sc d p n (v.setCell ⟨b,0,none⟩ x):=by
 exact zq14
theorem SOut.set1 {b:Nat} {u us x:Value} {sc r d p:Str} {n:Int} {v:World} (h:SOut b u us sc d p n v):SOut b u x r d p n ((v.setCell ⟨b,1,none⟩ x).setCell ⟨b,2,none⟩ (.string (S r))):=by
 exact zq14
theorem SOut.set3 {b:Nat} {u us:Value} {sc d p d' p':Str} {n n':Int} {v:World} (h:SOut b u us sc d p n v):SOut b u us sc d' p' n' (((v.setCell ⟨b,3,none⟩ (.string (S d'))).setCell ⟨b,4,none⟩ (.string (S p'))).setCell ⟨b,5,none⟩ (.int .i64 n')):=by
 exact zq14
def d3s (l:P.Dic) (st:List Int) (sc d p:Str) (n:Int) (w:World) (e:Ending) (w':World):Prop:=
 ∃u us m,e=.returned (a7w u us sc d p n)∧Ents w' (Bet w.heap.size m) u l∧Ints w' (Bet m w'.heap.size) us st∧w.heap.size≤m∧m≤w'.heap.size∧Below w.heap.size w w'
end Go.Proofs.YtggfdnopminemaaGreatDoor
namespace Go.Proofs.YtggfdnopminemaaGreatDoor.L
end Go.Proofs.YtggfdnopminemaaGreatDoor.L
namespace Go.Proofs.YtggfdnopminemaaGreatDoor.P
def appS (d p:Bs) (n:Int) (c r:Bs):Bs×Int×Int:=
 if !a2n d p n||!good c r then (p,n,1) else if n==60 then (p,n,2) else (p++line n.toNat c r,n+1,0)
def appI (d p:Bs) (n:Int) (c r:Bs):Bs×Int×Int:=
 if !a1q d p n||!vrec c r then (p,n,1) else if n==60 then (p,n,2) else (p++(encode n c r).1,n+1,0)
theorem b6e {d p:Bs} {n:Int} (h:a2n d p n=true):0≤n∧n≤60∧d.length+p.length≤30000:=by
 unfold a2n at h;simp only [Bool.and_eq_true,decide_eq_true_eq,beq_iff_eq]at h;have:=(b3e (d++p)).1;rw [a5i]at h;simp only at h;omega
theorem app_eq (d p:Bs) (n:Int) (c r:Bs):appI d p n c r=appS d p n c r:=by
 unfold appI appS;rw [a5p,a4z]
 cases h1:a2n d p n<;>cases h2:good c r<;>try rfl
 cases h3:(n==60)
 ·obtain⟨h4,h5,_⟩:=b6e h1;obtain⟨m,rfl⟩:=Int.eq_ofNat_of_zero_le h4;have h6:((m:Nat):Int)≠60:=by simpa using h3
  have:=a5s (k:=m) oZ h2;simp only [Bool.not_true,Bool.or_self,Bool.false_eq_true,if_false,Int.toNat_natCast];rw [this]
 ·rfl
end Go.Proofs.YtggfdnopminemaaGreatDoor.P
namespace Go.Proofs.YtggfdnopminemaaGreatDoor.L
open Go Go.RowKit
set_option maxHeartbeats 8000000
set_option maxRecDepth 100000
def AB (w:World) (d p:Str) (n:Int) (c r:Str) (v:World):Prop:=
 (v.cell? ⟨w.heap.size,0,none⟩=some (.string (S d))∧v.cell? ⟨w.heap.size,1,none⟩=some (.string (S p))∧v.cell? ⟨w.heap.size,2,none⟩=some (.int .i64 n)) ∧
 (v.cell? ⟨w.heap.size+1,0,none⟩=some (.string (S c))∧v.cell? ⟨w.heap.size+1,1,none⟩=some (.string (S r))) ∧
 (v.cell? ⟨w.heap.size+1+1,0,none⟩=some (.string (S []))∧v.cell? ⟨w.heap.size+1+1,1,none⟩=some (.string (S []))∧v.cell? ⟨w.heap.size+1+1,2,none⟩=some (.int .i64 0)) ∧
 (v.frozen? ⟨w.heap.size,0,none⟩=false∧v.frozen? ⟨w.heap.size,1,none⟩=false∧v.frozen? ⟨w.heap.size,2,none⟩=false) ∧
 (v.frozen? ⟨w.heap.size+1+1,0,none⟩=false∧v.frozen? ⟨w.heap.size+1+1,1,none⟩=false∧v.frozen? ⟨w.heap.size+1+1,2,none⟩=false) ∧
 w.heap.size+1+1<v.heap.size∧Env v∧Below w.heap.size w v
theorem AB.start {w:World} {d p:Str} {n:Int} {c r:Str} {t u:TypeId} (hE:Env w) :
 AB w d p n c r (((w.alloc (.cells #[.string (S d),.string (S p),.int .i64 n] t)).alloc (.cells #[.string (S c),.string (S r)] u)).alloc (.cells #[.string (S []),.string (S []),.int .i64 0] t)):=by
 refine⟨⟨?_,?_,?_⟩,⟨?_,?_⟩,⟨?_,?_,?_⟩,⟨?_,?_,?_⟩,⟨?_,?_,?_⟩,by simp,((hE.alloc _).alloc _).alloc _,((bZ.alloc lZ _).alloc sZ _).alloc (by simp;omega) _⟩<;>go_simp
theorem AB.carry {w v v':World} {d p:Str} {n:Int} {c r:Str} (h:AB w d p n c r v) (hb:Below v.heap.size v v'):AB w d p n c r v':=by
 obtain⟨⟨a1,a2,a3⟩,⟨b1,b2⟩,⟨c1,c2,c3⟩,⟨d1,d2,d3⟩,⟨e1,e2,e3⟩,f,g,i⟩:=h;have hz0:w.heap.size<v.heap.size:=by omega
 have hz1:w.heap.size+1<v.heap.size:=by omega
 refine⟨⟨?_,?_,?_⟩,⟨?_,?_⟩,⟨?_,?_,?_⟩,⟨?_,?_,?_⟩,⟨?_,?_,?_⟩,Nat.lt_of_lt_of_le f hb.size,g.below hb g.size,i.trans (hb.mono oZ)⟩
 ·exact (hb.cell (p:=⟨_,0,none⟩) hz0).trans a1
 ·exact (hb.cell (p:=⟨_,1,none⟩) hz0).trans a2
 ·exact (hb.cell (p:=⟨_,2,none⟩) hz0).trans a3
 ·exact (hb.cell (p:=⟨_,0,none⟩) hz1).trans b1
 ·exact (hb.cell (p:=⟨_,1,none⟩) hz1).trans b2
 ·exact (hb.cell (p:=⟨_,0,none⟩) f).trans c1
 ·exact (hb.cell (p:=⟨_,1,none⟩) f).trans c2
 ·exact (hb.cell (p:=⟨_,2,none⟩) f).trans c3
 ·exact (hb.frozen (p:=⟨_,0,none⟩) hz0).trans d1
 ·exact (hb.frozen (p:=⟨_,1,none⟩) hz0).trans d2
 ·exact (hb.frozen (p:=⟨_,2,none⟩) hz0).trans d3
 ·exact (hb.frozen (p:=⟨_,0,none⟩) f).trans e1
 ·exact (hb.frozen (p:=⟨_,1,none⟩) f).trans e2
 ·exact (hb.frozen (p:=⟨_,2,none⟩) f).trans e3
theorem AB.env {w v:World} {d p:Str} {n:Int} {c r:Str} (h:AB w d p n c r v):Env v:=h.2.2.2.2.2.2.1
theorem AB.below {w v:World} {d p:Str} {n:Int} {c r:Str} (h:AB w d p n c r v):Below w.heap.size w v:=h.2.2.2.2.2.2.2
theorem b9z (d p:Str) (n:Int) (c r:Str) (w:World) (hd:d.length≤2^20) (hp:p.length≤2^20) (hc:c.length≤2^20) (hr:r.length≤2^20) (hE:Env w) :
 Calls Tryz.prog 72 #[logV d p n,.agg #[.string (S c),.string (S r)]] w fun e w'=>e=.returned (.tuple #[logV d (P.appI d p n c r).1 (P.appI d p n c r).2.1,.int .i64 (P.appI d p n c r).2.2])∧Below w.heap.size w w':=by
 have A1:=qh (AB.start (w:=w) (d:=d) (p:=p) (n:=n) (c:=c) (r:=r) (t:=28) (u:=86) hE)
 clear hE
 cases h1:P.a1q d p n
 ·have HF:=qh (show P.appI d p n c r=(p,n,1) by unfold P.appI;rw [h1];rfl)
  go_enter Tryz.func72,Tryz.ntmps72
  go_wp2_with fail
  refine (a5f _ _ _ _ hd hp A1.o.env).mono ?_;rintro e w1 ⟨rfl,hb⟩;have A2:=qh (A1.o.carry hb);clear hb A1;obtain⟨⟨a1,a2,a3⟩,⟨b1,b2⟩,⟨c1,c2,c3⟩,⟨d1,d2,d3⟩,⟨e1,e2,e3⟩,hz,_⟩:=A2.o;rw [h1];go_wp2;refine bodyPost_ret (v:=.tuple #[logV d p n,.int .i64 1]) (by simp [results,Tryz.results72,go_sem,c1,c2,c3]) rfl ⟨by rw [HF.o],?_⟩;exact ((A2.o.below.setCell (by simp;omega) _).setCell (by simp;omega) _).setCell (by simp;omega) _
 ·cases h2:P.vrec c r
  ·have HF:=qh (show P.appI d p n c r=(p,n,1) by unfold P.appI;rw [h1,h2];rfl)
   go_enter Tryz.func72,Tryz.ntmps72
   go_wp2_with fail
   refine (a5f _ _ _ _ hd hp A1.o.env).mono ?_;rintro e w1 ⟨rfl,hb⟩;have A2:=qh (A1.o.carry hb);clear hb A1;obtain⟨⟨a1,a2,a3⟩,⟨b1,b2⟩,⟨c1,c2,c3⟩,⟨d1,d2,d3⟩,⟨e1,e2,e3⟩,hz,_⟩:=A2.o;rw [h1]
   go_wp2_with fail
   refine (a2l _ _ _ oZ oZ).mono ?_;rintro e w2 ⟨rfl,hb⟩;have A3:=qh (A2.o.carry hb);clear hb A2;clear a1 a2 a3 b1 b2 c1 c2 c3 d1 d2 d3 e1 e2 e3 hz;obtain⟨⟨a1,a2,a3⟩,⟨b1,b2⟩,⟨c1,c2,c3⟩,⟨d1,d2,d3⟩,⟨e1,e2,e3⟩,hz,_⟩:=A3.o;rw [h2];go_wp2;refine bodyPost_ret (v:=.tuple #[logV d p n,.int .i64 1]) (by simp [results,Tryz.results72,go_sem,c1,c2,c3]) rfl ⟨by rw [HF.o],?_⟩;exact ((A3.o.below.setCell (by simp;omega) _).setCell (by simp;omega) _).setCell (by simp;omega) _
  ·cases h3:(n==60)
   ·have HF:=qh (show P.appI d p n c r=(p++(P.encode n c r).1,n+1,0) by unfold P.appI;rw [h1,h2,h3];rfl);have hn:=P.b6e (P.a5p d p n ▸ h1);obtain⟨hn0,hn1,_⟩:=hn;obtain⟨x,hx⟩:∃x,(P.encode n c r).1=x:=⟨_,rfl⟩;have HX:=qh hx
    have hxl:x.length≤10000:=by
     rw [←hx];obtain⟨m,rfl⟩:=Int.eq_ofNat_of_zero_le hn0;have h6:((m:Nat):Int)≠60:=by simpa using h3
     rw [P.a5s (k:=m) oZ (P.a4z c r ▸ h2)];have:=(P.a7m (k:=m) oZ (P.a4z c r ▸ h2)).1
     show (P.line m c r).length≤10000
     omega
    clear hx
    go_enter Tryz.func72,Tryz.ntmps72
    go_wp2_with fail
    refine (a5f _ _ _ _ hd hp A1.o.env).mono ?_;rintro e w1 ⟨rfl,hb⟩;have A2:=qh (A1.o.carry hb);clear hb A1;obtain⟨⟨a1,a2,a3⟩,⟨b1,b2⟩,⟨c1,c2,c3⟩,⟨d1,d2,d3⟩,⟨e1,e2,e3⟩,hz,_⟩:=A2.o;rw [h1]
    go_wp2_with fail
    refine (a2l _ _ _ oZ oZ).mono ?_;rintro e w2 ⟨rfl,hb⟩;have A3:=qh (A2.o.carry hb);clear hb A2;clear a1 a2 a3 b1 b2 c1 c2 c3 d1 d2 d3 e1 e2 e3 hz;obtain⟨⟨a1,a2,a3⟩,⟨b1,b2⟩,⟨c1,c2,c3⟩,⟨d1,d2,d3⟩,⟨e1,e2,e3⟩,hz,_⟩:=A3.o;rw [h2]
    go_wp2_with fail
    refine (b0r _ _ _ _ oZ oZ A3.o.env).mono ?_;rintro e w3 ⟨rfl,hb⟩;rw [HX.o];have A4:=qh (A3.o.carry hb);clear hb A3;clear a1 a2 a3 b1 b2 c1 c2 c3 d1 d2 d3 e1 e2 e3 hz;obtain⟨⟨a1,a2,a3⟩,⟨b1,b2⟩,⟨c1,c2,c3⟩,⟨d1,d2,d3⟩,⟨e1,e2,e3⟩,hz,_⟩:=A4.o;have f1:¬9223372036854775807<p.length+x.length:=by omega
    go_wp2;refine bodyPost_ret (v:=.tuple #[logV d (p++x) (n+1),.int .i64 0]) (by simp [results,Tryz.results72,go_sem,c1,c2,c3]) rfl ⟨by rw [HF.o,HX.o],?_⟩;exact ((A4.o.below.setCell (by simp;omega) _).setCell (by simp;omega) _).setCell (by simp;omega) _
   ·have HF:=qh (show P.appI d p n c r=(p,n,2) by unfold P.appI;rw [h1,h2,h3];rfl)
    go_enter Tryz.func72,Tryz.ntmps72
    go_wp2_with fail
    refine (a5f _ _ _ _ hd hp A1.o.env).mono ?_;rintro e w1 ⟨rfl,hb⟩;have A2:=qh (A1.o.carry hb);clear hb A1;obtain⟨⟨a1,a2,a3⟩,⟨b1,b2⟩,⟨c1,c2,c3⟩,⟨d1,d2,d3⟩,⟨e1,e2,e3⟩,hz,_⟩:=A2.o;rw [h1]
    go_wp2_with fail
    refine (a2l _ _ _ oZ oZ).mono ?_;rintro e w2 ⟨rfl,hb⟩;have A3:=qh (A2.o.carry hb);clear hb A2;clear a1 a2 a3 b1 b2 c1 c2 c3 d1 d2 d3 e1 e2 e3 hz;obtain⟨⟨a1,a2,a3⟩,⟨b1,b2⟩,⟨c1,c2,c3⟩,⟨d1,d2,d3⟩,⟨e1,e2,e3⟩,hz,_⟩:=A3.o;rw [h2];go_wp2;refine bodyPost_ret (v:=.tuple #[logV d p n,.int .i64 2]) (by simp [results,Tryz.results72,go_sem,c1,c2,c3]) rfl ⟨by rw [HF.o],?_⟩;exact ((A3.o.below.setCell (by simp;omega) _).setCell (by simp;omega) _).setCell (by simp;omega) _
end Go.Proofs.YtggfdnopminemaaGreatDoor.L
