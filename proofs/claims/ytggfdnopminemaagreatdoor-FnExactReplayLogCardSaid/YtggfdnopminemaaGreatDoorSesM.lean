/- Walks: the records of a log (program). -/
import Derived.Test.YtggfdnopminemaaGreatDoorZt
import Derived.Test.YtggfdnopminemaaGreatDoorLLog3
import Derived.Test.YtggfdnopminemaaGreatDoorScrI9
namespace Go.Proofs.YtggfdnopminemaaGreatDoor.L
open Go Go.RowKit
set_option maxHeartbeats 8000000
set_option maxRecDepth 100000
theorem own_one (w:World) (B:Nat) (hB:B≤w.heap.size) (x:Int):OwnInts B (w.alloc (.cells #[.int .i64 x] 3)) (.slice (some ⟨w.heap.size,0,none⟩) 1 1) [x]:=
 ⟨by simp [intVals],.inr ⟨w.heap.size,1,_,rfl,hB,heap_alloc_new w _,Nat.le_refl _,by decide,by simp,by simp [intVals]⟩⟩
theorem own_cellI {B:Nat} {w:World} {v:Value} {l:List Int} (h:OwnInts B w v l) (hl:l≠[]):∃g cap,v=.slice (some ⟨g,0,none⟩) l.length cap∧B≤g∧g<w.heap.size∧∀j (hj:j<l.length),w.cell? ⟨g,j,none⟩=some (.int .i64 l[j]):=by
 rcases h.2 with⟨_,h0⟩|⟨g,cap,cur,hv,hg,hh,_⟩
 ·exact absurd (List.eq_nil_of_length_eq_zero h0) hl
 ·have hob:v.ownBlock=some g:=by rw [hv];rfl
  refine⟨g,cap,hv,hg,(World.ownsRow.lt h g hob).2,fun j hj=>?_⟩;have hc:=World.ownsRow.cells h hob j (.int .i64 l[j]) (by simp [intVals,List.getElem?_eq_getElem hj])
  rwa [add0]at hc
theorem own_srcI {B:Nat} {w:World} {v:Value} {l:List Int} (h:OwnInts B w v l):SrcIs w 1 v l.length (intVals l):=by
 refine⟨by simp [intVals],by intro x hx;simp [intVals]at hx;obtain⟨y,_,rfl⟩:=hx;rfl,?_⟩
 rcases h.2 with⟨hv,h0⟩|⟨g,cap,cur,hv,hg,hh,_⟩
 ·exact .inl ⟨hv,h0⟩
 ·have hob:v.ownBlock=some g:=by rw [hv];rfl
  exact .inr ⟨⟨g,0,none⟩,cap,hv,World.ownsRow.cells h hob⟩
theorem own_base {B C:Nat} {w:World} {e:TypeId} {s:Nat} {v:Value} {n:Nat} {xs:List Value} (h:w.ownsRow B e s v n xs) (hC:C≤B):w.ownsRow C e s v n xs:=by
 refine⟨h.1,?_⟩
 rcases h.2 with h2|⟨g,cap,cur,hv,hg,r⟩
 ·exact .inl h2
 ·exact .inr ⟨g,cap,cur,hv,Nat.le_trans hC hg,r⟩
def RecsPost (d p:Str) (n:Int) (w:World) (e:Ending) (w':World):Prop:=∃v,e=.returned (.tuple #[v,.bool (P.recordsOk d p n)])∧OwnRecs w.heap.size w' v (P.readAll (d++p)).1∧Below w.heap.size w w'
theorem records (d p:Str) (n:Int) (w:World) (hd:d.length≤2^20) (hp:p.length≤2^20) (hE:Env w) :
 Calls Tryz.prog 56 #[logV d p n] w (RecsPost d p n w):=by
 obtain⟨j0,ji,jz0,jz1,jz2⟩:=info_parts info_int
 have HE:=qh hE;clear hE
 go_enter Tryz.func56,Tryz.ntmps56
 go_wp2_with fail
 refine (read _ _ (by simp;omega) (HE.o.alloc _)).mono ?_
 rintro e w1 ⟨v,u,rfl,hown,howi,hb⟩
 obtain⟨ad,cp,rfl⟩:=own_len hown
 obtain⟨hcc,hff⟩:=bcell hb
 have hz:=grew0 hb
 have hk0:w1.cell? ⟨w.heap.size,0,none⟩=some (.string (S d)):=by rw [hcc _ _ sZ];go_simp
 have hk2:w1.cell? ⟨w.heap.size,2,none⟩=some (.int .i64 n):=by rw [hcc _ _ sZ];go_simp
 have HOWN:=qh hown;have HOWI:=qh howi;have HB:=qh hb
 clear hown howi hb hcc hff
 have hrl:=P.readAll_len (d++p)
 generalize hR:P.readAll (d++p)=R at *
 obtain⟨hrl1,hrl2⟩:=hrl
 have HRL2:=qh hrl2
 have hrl3:R.2.1.length≤60:=by omega
 clear hrl2
 have HRR:=qh hR;clear hR
 go_wp2_with (at_builtin;refine wpList_append_src rfl (.tmp 21) (.tmp 22) 33 rfl w.heap.size 3 j0 (.int .i64 0) 1 8 Tryz.underlying33 ji jz0 jz1 jz2 rfl dZ _ _ _ rfl (own_one w1 w.heap.size (Nat.le_of_lt hz) 0) _ _ _ rfl (own_srcI (World.ownsRow.alloc HOWI.o _)) ?c3 ?c4 ?c5 ?_)
 case c3=>unfold maxLen;simp;omega
 case c4=>simp;omega
 case c5=>simp;omega
 intro v' w2 hown' hgrow _
 rw [show (Value.slice (some ⟨w1.heap.size,0,none⟩) 1 1).ownBlock=some w1.heap.size from rfl]at hgrow
 obtain⟨st,hst⟩:∃st:List Int,st=0::R.2.1:=⟨_,rfl⟩
 have hstl:st.length≤61:=by rw [hst];simp;omega
 have hstn:st≠[]:=by rw [hst];simp
 have hS:OwnInts w.heap.size w2 v' st:=by rw [hst];unfold OwnInts;rw [List.length_cons,Nat.add_comm];simpa [intVals] using hown'
 obtain⟨g,cp2,rfl,hg,hgl,hcell⟩:=own_cellI hS hstn
 have hk0':w2.cell? ⟨w.heap.size,0,none⟩=some (.string (S d)):=hgrow.cell (cell_alloc hk0 _) (by show some w.heap.size≠some w1.heap.size;intro e;injection e with e;omega)
 have hk2':w2.cell? ⟨w.heap.size,2,none⟩=some (.int .i64 n):=hgrow.cell (cell_alloc hk2 _) (by show some w.heap.size≠some w1.heap.size;intro e;injection e with e;omega)
 have hO:OwnRecs w.heap.size w2 (.slice ad R.1.length cp) R.1:=World.ownsRow.kept (World.ownsRow.alloc (own_base HOWN.o sZ) _) hgrow (by
  cases hb:(Value.slice ad R.1.length cp).ownBlock with
  |none=>exact .inl rfl
  |some k=>exact .inr (by intro e;injection e with e;have:=(World.ownsRow.lt HOWN.o k hb).2;omega))
 have hB:Below w.heap.size w w2:=((((bZ.alloc lZ _).trans (HB.o.mono sZ)).alloc (Nat.le_of_lt hz) _).grown hgrow (by simp;omega) (fun k hk=>by injection hk with hk;omega))
 have HO:=qh hO;have HBB:=qh hB;have HST:=qh hst;have HCELL:=qh hcell
 clear hO hB hst hcell hS HB HOWN HOWI hgrow hown' hk0 hk2 hrl1
 go_wp2
 go_loop [8,10,26] (fun dr _ i=>∃k:Nat,k≤st.length∧i=.int .i64 k∧dr=.bool ((st.take k).any fun x=>x==(d.length:Int))) (fun _ _ i=>st.length-(intOf i).toNat)
 case atStart=>exact⟨0,Nat.zero_le _,rfl,by simp⟩
 case round=>
  obtain⟨k,hk,rfl,rfl⟩:=hrel;generalize hg0:(st.take k).any (fun x=>x==(d.length:Int))=dr at *;have HDR:=qh hg0;clear hg0
  by_cases hlt:k<st.length
  ·have hck:=HCELL.o k hlt;have HSN:=qh (show (st.take (k+1)).any (fun x=>x==(d.length:Int))=(dr||(st[k]==(d.length:Int))) by rw [take_snoc st k hlt,List.any_append,HDR.o];simp only [List.any_cons,List.any_nil,Bool.or_false])
   cases dr
   ·exact zq164
   ·exact zq164
  ·have hkk:k=st.length:=by omega
   have HDR2:=qh (show st.any (fun x=>x==(d.length:Int))=dr by rw [←HDR.o,List.take_of_length_le oZ]);clear hkk;obtain⟨m,hm⟩:∃m,m=st.length-1:=⟨_,rfl⟩;have hm1:m<st.length:=by have:=List.length_pos_iff.2 hstn;omega
   have hcl:=HCELL.o m hm1;obtain⟨x,hx⟩:∃x,x=st[m]:=⟨_,rfl⟩;rw [←hx]at hcl;have hxx:st[st.length-1]?.getD 0=x:=by rw [←hm,List.getElem?_eq_getElem hm1,hx];rfl
   have hF:P.recordsOk d p n=(dr&&((x==(d.length:Int)+p.length)&&(n==(R.1.length:Int)))):=by
    unfold P.recordsOk P.starts;rw [HRR.o,←HST.o,HDR2.o,hxx];simp
   have HF0:=qh hF;have i1:IntKind.i64.wrap ((st.length:Int)-1)=(st.length:Int)-1:=IntWalk.i64_in _ oZ;have i2:0≤(st.length:Int)-1:=by omega
   have i3:((st.length:Int)-1).toNat=m:=by omega
   have i4:(st.length:Int)-1<(st.length:Int):=by omega
   clear hm hm1 hx hxx hF HCELL
   have finish:∀q b,P.recordsOk d p n=b→RecsPost d p n w (.returned (.tuple #[.slice ad R.1.length cp,.bool b])) (w2.drewN q):=by
    intro q b hb;refine⟨.slice ad R.1.length cp,by rw [hb],?_,?_⟩
    ·rw [HRR.o];exact own_below HO.o (below_drewN (Below.refl w2.heap.size _) _) lZ
    ·exact below_drewN HBB.o _
   have FIN:=qh finish;clear finish
   cases dr
   ·have HF:=qh (show P.recordsOk d p n=false by rw [HF0.o];rfl)
    go_wp2_with fail
    go_quiet (fail)
    go_wp2;go_ret2;exact FIN.o _ _ HF.o
   ·cases h5:(x==(d.length:Int)+p.length)
    ·have HF:=qh (show P.recordsOk d p n=false by rw [HF0.o,h5];rfl)
     go_wp2_with fail
     go_quiet (fail)
     go_wp2;go_ret2;exact FIN.o _ _ HF.o
    ·cases h6:(n==(R.1.length:Int))
     all_goals
      have HF:=qh (show P.recordsOk d p n=_ by rw [HF0.o,h5,h6])
      go_wp2_with fail
      go_quiet (fail)
      go_wp2
      go_ret2
      exact FIN.o _ _ HF.o
theorem isValidLog (d p:Str) (n:Int) (w:World) (hd:d.length≤2^20) (hp:p.length≤2^20) (hE:Env w) :
 Calls Tryz.prog 73 #[logV d p n] w fun e w'=>e=.returned (.bool (P.recordsOk d p n))∧Below w.heap.size w w':=by
 have HE:=qh hE;clear hE
 go_enter Tryz.func73,Tryz.ntmps73
 go_wp2_with fail
 refine (records _ _ _ _ hd hp (HE.o.alloc _)).mono ?_
 rintro e w1 ⟨v,rfl,_,hb⟩
 go_wp2
 go_ret
 exact⟨rfl,(bZ.alloc lZ _).trans (hb.mono sZ)⟩
theorem szLog (d p:Str) (n left:Int) (w:World) (hd:d.length≤maxLen) (hp:p.length≤maxLen) (hl0:0≤left) (hl:left≤1048576) :
 Calls Tryz.prog 29 #[logV d p n,.int .i64 left] w fun e w'=>e=.returned (.int .i64 (P.sz2 d.length p.length left))∧Below w.heap.size w w':=by
 unfold maxLen at hd hp
 rcases Int.lt_or_le (left-(d.length:Int)) 0 with h1|h1
 ·have HF:=qh (show P.sz2 d.length p.length left = -1 by unfold P.sz2;rw [if_pos h1])
  go_enter Tryz.func29,Tryz.ntmps29
  go_wp2;go_ret;exact zq98
 ·rcases Int.lt_or_le (left-(d.length:Int)-(p.length:Int)) 0 with h2|h2
  ·have HF:=qh (show P.sz2 d.length p.length left = -1 by unfold P.sz2;rw [if_neg oZ,if_pos h2])
   go_enter Tryz.func29,Tryz.ntmps29
   go_wp2;go_ret;exact zq98
  ·have HF:=qh (show P.sz2 d.length p.length left=left-(d.length:Int)-(p.length:Int) by unfold P.sz2;rw [if_neg oZ,if_neg oZ])
   go_enter Tryz.func29,Tryz.ntmps29
   go_wp2;go_ret;exact zq98
theorem toLog (d p:Str) (n:Int) (w:World) :
 Calls Tryz.prog 31 #[logV d p n] w fun e w'=>e=.returned (logV d p n)∧Below w.heap.size w w':=by
 go_enter Tryz.func31,Tryz.ntmps31
 go_wp2
 refine bodyPost_ret (v:=logV d p n) (by simp [results,Tryz.results31,go_sem]) rfl ⟨rfl,?_⟩
 exact ((bZ.alloc lZ _).alloc sZ _).alloc (by simp;omega) _
end Go.Proofs.YtggfdnopminemaaGreatDoor.L
namespace Go.Proofs.YtggfdnopminemaaGreatDoor
namespace P
theorem trans_dicS {d:Dic} {t:Tr} (h:trans d t=true):dic d=true:=by
 exact zq129
def sess (l:Dic) (st:List Int) (sc d p:Bs) (n:Int):Bool:=trans l (st,sc)&&validLog d p n
theorem sess_dic (l:Dic) (st:List Int) (sc d p:Bs) (n:Int):(dic l&&(trans l (st,sc)&&validLog d p n))=sess l st sc d p n:=by
 unfold sess
 cases h:trans l (st,sc) with
 |false=>simp
 |true=>rw [trans_dicS h];simp
end P
open Go Go.RowKit
set_option maxHeartbeats 8000000
set_option maxRecDepth 100000
theorem impl_isValidSession (u us:Value) (l:P.Dic) (st:List Int) (sc d p:Str) (n:Int) (w:World) (hu:EntR w u l) (hus:IntR w us st) (hm:Small l) (hd:d.length≤2^20) (hp:p.length≤2^20) (hE:L.Env w) :
 Calls Tryz.prog 45 #[sessV u us sc d p n] w fun e w'=>e=.returned (.bool (P.sess l st sc d p n))∧Below w.heap.size w w':=by
 have hb0:=(Below.refl w.heap.size w).alloc lZ (sessCells u us sc d p n)
 have HU:=qh (hu.below hb0);have HUS:=qh (hus.below hb0);have HX:=qh (SBox.new u us sc d p n w);have HE:=qh (hE.below hb0 hE.size);have HB:=qh hb0
 clear hb0 hE
 obtain⟨ad,cap,rfl,_,_⟩:=hu
 obtain⟨sd,sap,rfl,_,_⟩:=hus
 go_enter Tryz.func45,Tryz.ntmps45
 go_upto_region 1 with fail
 generalize w.alloc (sessCells (.slice ad l.length cap) (.slice sd st.length sap) sc d p n)=v0 at *
 obtain⟨c0,c1,c2,c3,c4,c5,_⟩:=HX.o
 go_wp2_with fail
 refine (impl_isValidTranslator _ _ l st sc _ HU.o HUS.o hm HE.o.dic).mono ?_
 rintro e w1 ⟨rfl,hb⟩
 have HX1:=qh (HX.o.below hb);have HE1:=qh (HE.o.below hb HE.o.size);have HB1:=bt HB hb
 have HP:=qh (show P.sess l st sc d p n=(P.trans l (st,sc)&&P.validLog d p n) from rfl)
 clear hb c0 c1 c2 c3 c4 c5 HX HE HB HU HUS
 generalize P.trans l (st,sc)=q at *
 obtain⟨c0,c1,c2,c3,c4,c5,_⟩:=HX1.o
 cases q
 ·go_wp2;go_ret;exact⟨by rw [HP.o];rfl,HB1.o⟩
 ·go_wp2_with fail
  refine (L.isValidLog d p n _ hd hp HE1.o).mono ?_;rintro e w2 ⟨rfl,hb⟩;rw [P.records_valid];have HB2:=bt HB1 hb;clear hb;go_wp2;go_ret;exact⟨by rw [HP.o];rfl,HB2.o⟩
theorem l25Good (u us:Value) (l:P.Dic) (st:List Int) (sc d p:Str) (n:Int) (w:World) (hu:EntR w u l) (hus:IntR w us st) (hm:Small l) (hd:d.length≤2^20) (hp:p.length≤2^20) :
 Calls Tryz.prog 93 #[sessV u us sc d p n] w fun e w'=>e=.returned (.bool (P.sess l st sc d p n))∧Below w.heap.size w w':=by
 have hb0:=(Below.refl w.heap.size w).alloc lZ (sessCells u us sc d p n)
 have HU:=qh (hu.below hb0);have HUS:=qh (hus.below hb0);have HX:=qh (SBox.new u us sc d p n w);have HB:=qh hb0
 clear hb0
 have HP:=qh (P.sess_dic l st sc d p n)
 obtain⟨ad,cap,rfl,_,_⟩:=hu
 obtain⟨sd,sap,rfl,_,_⟩:=hus
 go_enter Tryz.func93,Tryz.ntmps93
 go_upto_region 1 with fail
 generalize w.alloc (sessCells (.slice ad l.length cap) (.slice sd st.length sap) sc d p n)=v0 at *
 obtain⟨c0,c1,c2,c3,c4,c5,_⟩:=HX.o
 go_wp2_with fail
 refine (l6Good _ l _ HU.o hm.texts).mono ?_
 rintro e w1 ⟨rfl,hb⟩
 have HX1:=qh (HX.o.below hb);have HB1:=bt HB hb;have HU1:=qh (HU.o.below hb);have HUS1:=qh (HUS.o.below hb)
 clear hb c0 c1 c2 c3 c4 c5 HX HB HU HUS
 generalize P.dic l=q at *
 obtain⟨c0,c1,c2,c3,c4,c5,_⟩:=HX1.o
 cases q
 ·go_wp2;go_ret;exact⟨by rw [←HP.o];rfl,HB1.o⟩
 ·go_wp2_with fail
  refine (l14Good _ _ l st sc _ HU1.o HUS1.o hm).mono ?_;rintro e w2 ⟨rfl,hb⟩;have HX2:=qh (HX1.o.below hb);have HB2:=bt HB1 hb;clear hb c0 c1 c2 c3 c4 c5 HX1 HB1 HU1 HUS1;generalize P.trans l (st,sc)=q at *;obtain⟨c0,c1,c2,c3,c4,c5,_⟩:=HX2.o
  cases q
  ·go_wp2;go_ret;exact⟨by rw [←HP.o];rfl,HB2.o⟩
  ·go_wp2_with fail
   refine (L.l24Log d p n _ hd hp).mono ?_;rintro e w3 ⟨rfl,hb⟩;have HB3:=bt HB2 hb;clear hb;go_wp2;go_ret;exact⟨by rw [←HP.o];rfl,HB3.o⟩
def SOut (b:Nat) (u us:Value) (sc d p:Str) (n:Int) (v:World):Prop:=
 SBox b u us sc d p n v∧v.frozen? ⟨b,0,none⟩=false∧v.frozen? ⟨b,1,none⟩=false∧v.frozen? ⟨b,2,none⟩=false∧v.frozen? ⟨b,3,none⟩=false∧v.frozen? ⟨b,4,none⟩=false∧v.frozen? ⟨b,5,none⟩=false
theorem SOut.stand {b:Nat} {u us:Value} {sc d p:Str} {n:Int} {v v':World} {X:Blk} (h:SOut b u us sc d p n v) (hc:Chg X v v') (hX:¬X b):SOut b u us sc d p n v':=by
 obtain⟨h0,f0,f1,f2,f3,f4,f5⟩:=h;have hb:=h0.2.2.2.2.2.2;exact⟨h0.stand hc hX,(hc.frozen (p:=⟨b,0,none⟩) hb hX).trans f0,(hc.frozen (p:=⟨b,1,none⟩) hb hX).trans f1,(hc.frozen (p:=⟨b,2,none⟩) hb hX).trans f2,(hc.frozen (p:=⟨b,3,none⟩) hb hX).trans f3,(hc.frozen (p:=⟨b,4,none⟩) hb hX).trans f4,(hc.frozen (p:=⟨b,5,none⟩) hb hX).trans f5⟩
theorem SOut.below {b:Nat} {u us:Value} {sc d p:Str} {n:Int} {v v':World} (h:SOut b u us sc d p n v) (hb:Below v.heap.size v v'):SOut b u us sc d p n v':=h.stand (Below.chg hb fun _=>False) fun h=>h
theorem SOut.new (u us:Value) (sc d p:Str) (n:Int) (v:World):SOut v.heap.size u us sc d p n (v.alloc (sessCells u us sc d p n)):=by
 refine⟨SBox.new _ _ _ _ _ _ _,?_,?_,?_,?_,?_,?_⟩<;>go_simp
theorem SOut.set0 {b:Nat} {u us x:Value} {sc d p:Str} {n:Int} {v:World} (h:SOut b u us sc d p n v):SOut b x us sc d p n (v.setCell ⟨b,0,none⟩ x):=by
 exact zq28
theorem SOut.set1 {b:Nat} {u us x:Value} {sc r d p:Str} {n:Int} {v:World} (h:SOut b u us sc d p n v):SOut b u x r d p n ((v.setCell ⟨b,1,none⟩ x).setCell ⟨b,2,none⟩ (.string (S r))):=by
 exact zq28
theorem SOut.set3 {b:Nat} {u us:Value} {sc d p d' p':Str} {n n':Int} {v:World} (h:SOut b u us sc d p n v):SOut b u us sc d' p' n' (((v.setCell ⟨b,3,none⟩ (.string (S d'))).setCell ⟨b,4,none⟩ (.string (S p'))).setCell ⟨b,5,none⟩ (.int .i64 n')):=by
 exact zq28
def SesPost (l:P.Dic) (st:List Int) (sc d p:Str) (n:Int) (w:World) (e:Ending) (w':World):Prop:=
 ∃u us m,e=.returned (sessV u us sc d p n)∧Ents w' (Bet w.heap.size m) u l∧Ints w' (Bet m w'.heap.size) us st∧w.heap.size≤m∧m≤w'.heap.size∧Below w.heap.size w w'
end Go.Proofs.YtggfdnopminemaaGreatDoor
namespace Go.Proofs.YtggfdnopminemaaGreatDoor.L
end Go.Proofs.YtggfdnopminemaaGreatDoor.L
namespace Go.Proofs.YtggfdnopminemaaGreatDoor.P
def appS (d p:Bs) (n:Int) (c r:Bs):Bs×Int×Int:=
 if !validLog d p n||!good c r then (p,n,1) else if n==60 then (p,n,2) else (p++line n.toNat c r,n+1,0)
def appI (d p:Bs) (n:Int) (c r:Bs):Bs×Int×Int:=
 if !recordsOk d p n||!vrec c r then (p,n,1) else if n==60 then (p,n,2) else (p++(encode n c r).1,n+1,0)
theorem valid_n {d p:Bs} {n:Int} (h:validLog d p n=true):0≤n∧n≤60∧d.length+p.length≤30000:=by
 unfold validLog at h;simp only [Bool.and_eq_true,decide_eq_true_eq,beq_iff_eq]at h;have:=(readAll_len (d++p)).1;rw [openLog_eq]at h;simp only at h;omega
theorem app_eq (d p:Bs) (n:Int) (c r:Bs):appI d p n c r=appS d p n c r:=by
 unfold appI appS;rw [records_valid,vrec_good]
 cases h1:validLog d p n<;>cases h2:good c r<;>try rfl
 cases h3:(n==60)
 ·obtain⟨h4,h5,_⟩:=valid_n h1;obtain⟨m,rfl⟩:=Int.eq_ofNat_of_zero_le h4;have h6:((m:Nat):Int)≠60:=by simpa using h3
  have:=encode_good (k:=m) oZ h2;simp only [Bool.not_true,Bool.or_self,Bool.false_eq_true,if_false,Int.toNat_natCast];rw [this]
 ·rfl
end Go.Proofs.YtggfdnopminemaaGreatDoor.P
namespace Go.Proofs.YtggfdnopminemaaGreatDoor.L
open Go Go.RowKit
set_option maxHeartbeats 8000000
set_option maxRecDepth 100000
def AB (w:World) (d p:Str) (n:Int) (c r:Str) (v:World):Prop:=
 (v.cell? ⟨w.heap.size,0,none⟩=some (.string (S d))∧v.cell? ⟨w.heap.size,1,none⟩=some (.string (S p))∧v.cell? ⟨w.heap.size,2,none⟩=some (.int .i64 n)) ∧
 (v.cell? ⟨w.heap.size+1,0,none⟩=some (.string (S c))∧v.cell? ⟨w.heap.size+1,1,none⟩=some (.string (S r))) ∧
 (v.cell? ⟨w.heap.size+1+1,0,none⟩=some (.string (S []))∧v.cell? ⟨w.heap.size+1+1,1,none⟩=some (.string (S []))∧v.cell? ⟨w.heap.size+1+1,2,none⟩=some (.int .i64 0)) ∧
 (v.frozen? ⟨w.heap.size,0,none⟩=false∧v.frozen? ⟨w.heap.size,1,none⟩=false∧v.frozen? ⟨w.heap.size,2,none⟩=false) ∧
 (v.frozen? ⟨w.heap.size+1+1,0,none⟩=false∧v.frozen? ⟨w.heap.size+1+1,1,none⟩=false∧v.frozen? ⟨w.heap.size+1+1,2,none⟩=false) ∧
 w.heap.size+1+1<v.heap.size∧Env v∧Below w.heap.size w v
theorem AB.start {w:World} {d p:Str} {n:Int} {c r:Str} {t u:TypeId} (hE:Env w) :
 AB w d p n c r (((w.alloc (.cells #[.string (S d),.string (S p),.int .i64 n] t)).alloc (.cells #[.string (S c),.string (S r)] u)).alloc (.cells #[.string (S []),.string (S []),.int .i64 0] t)):=by
 refine⟨⟨?_,?_,?_⟩,⟨?_,?_⟩,⟨?_,?_,?_⟩,⟨?_,?_,?_⟩,⟨?_,?_,?_⟩,by simp,((hE.alloc _).alloc _).alloc _,((bZ.alloc lZ _).alloc sZ _).alloc (by simp;omega) _⟩<;>go_simp
theorem AB.carry {w v v':World} {d p:Str} {n:Int} {c r:Str} (h:AB w d p n c r v) (hb:Below v.heap.size v v'):AB w d p n c r v':=by
 obtain⟨⟨a1,a2,a3⟩,⟨b1,b2⟩,⟨c1,c2,c3⟩,⟨d1,d2,d3⟩,⟨e1,e2,e3⟩,f,g,i⟩:=h;have hz0:w.heap.size<v.heap.size:=by omega
 have hz1:w.heap.size+1<v.heap.size:=by omega
 refine⟨⟨?_,?_,?_⟩,⟨?_,?_⟩,⟨?_,?_,?_⟩,⟨?_,?_,?_⟩,⟨?_,?_,?_⟩,Nat.lt_of_lt_of_le f hb.size,g.below hb g.size,i.trans (hb.mono oZ)⟩
 ·exact (hb.cell (p:=⟨_,0,none⟩) hz0).trans a1
 ·exact (hb.cell (p:=⟨_,1,none⟩) hz0).trans a2
 ·exact (hb.cell (p:=⟨_,2,none⟩) hz0).trans a3
 ·exact (hb.cell (p:=⟨_,0,none⟩) hz1).trans b1
 ·exact (hb.cell (p:=⟨_,1,none⟩) hz1).trans b2
 ·exact (hb.cell (p:=⟨_,0,none⟩) f).trans c1
 ·exact (hb.cell (p:=⟨_,1,none⟩) f).trans c2
 ·exact (hb.cell (p:=⟨_,2,none⟩) f).trans c3
 ·exact (hb.frozen (p:=⟨_,0,none⟩) hz0).trans d1
 ·exact (hb.frozen (p:=⟨_,1,none⟩) hz0).trans d2
 ·exact (hb.frozen (p:=⟨_,2,none⟩) hz0).trans d3
 ·exact (hb.frozen (p:=⟨_,0,none⟩) f).trans e1
 ·exact (hb.frozen (p:=⟨_,1,none⟩) f).trans e2
 ·exact (hb.frozen (p:=⟨_,2,none⟩) f).trans e3
theorem AB.env {w v:World} {d p:Str} {n:Int} {c r:Str} (h:AB w d p n c r v):Env v:=h.2.2.2.2.2.2.1
theorem AB.below {w v:World} {d p:Str} {n:Int} {c r:Str} (h:AB w d p n c r v):Below w.heap.size w v:=h.2.2.2.2.2.2.2
theorem impl_append (d p:Str) (n:Int) (c r:Str) (w:World) (hd:d.length≤2^20) (hp:p.length≤2^20) (hc:c.length≤2^20) (hr:r.length≤2^20) (hE:Env w) :
 Calls Tryz.prog 72 #[logV d p n,.agg #[.string (S c),.string (S r)]] w fun e w'=>e=.returned (.tuple #[logV d (P.appI d p n c r).1 (P.appI d p n c r).2.1,.int .i64 (P.appI d p n c r).2.2])∧Below w.heap.size w w':=by
 have A1:=qh (AB.start (w:=w) (d:=d) (p:=p) (n:=n) (c:=c) (r:=r) (t:=28) (u:=86) hE)
 clear hE
 cases h1:P.recordsOk d p n
 ·have HF:=qh (show P.appI d p n c r=(p,n,1) by unfold P.appI;rw [h1];rfl)
  go_enter Tryz.func72,Tryz.ntmps72
  go_wp2_with fail
  refine (isValidLog _ _ _ _ hd hp A1.o.env).mono ?_;rintro e w1 ⟨rfl,hb⟩;have A2:=qh (A1.o.carry hb);clear hb A1;obtain⟨⟨a1,a2,a3⟩,⟨b1,b2⟩,⟨c1,c2,c3⟩,⟨d1,d2,d3⟩,⟨e1,e2,e3⟩,hz,_⟩:=A2.o;rw [h1];go_wp2;refine bodyPost_ret (v:=.tuple #[logV d p n,.int .i64 1]) (by simp [results,Tryz.results72,go_sem,c1,c2,c3]) rfl ⟨by rw [HF.o],?_⟩;exact ((A2.o.below.setCell (by simp;omega) _).setCell (by simp;omega) _).setCell (by simp;omega) _
 ·cases h2:P.vrec c r
  ·have HF:=qh (show P.appI d p n c r=(p,n,1) by unfold P.appI;rw [h1,h2];rfl)
   go_enter Tryz.func72,Tryz.ntmps72
   go_wp2_with fail
   refine (isValidLog _ _ _ _ hd hp A1.o.env).mono ?_;rintro e w1 ⟨rfl,hb⟩;have A2:=qh (A1.o.carry hb);clear hb A1;obtain⟨⟨a1,a2,a3⟩,⟨b1,b2⟩,⟨c1,c2,c3⟩,⟨d1,d2,d3⟩,⟨e1,e2,e3⟩,hz,_⟩:=A2.o;rw [h1]
   go_wp2_with fail
   refine (isValidRecord _ _ _ oZ oZ).mono ?_;rintro e w2 ⟨rfl,hb⟩;have A3:=qh (A2.o.carry hb);clear hb A2;clear a1 a2 a3 b1 b2 c1 c2 c3 d1 d2 d3 e1 e2 e3 hz;obtain⟨⟨a1,a2,a3⟩,⟨b1,b2⟩,⟨c1,c2,c3⟩,⟨d1,d2,d3⟩,⟨e1,e2,e3⟩,hz,_⟩:=A3.o;rw [h2];go_wp2;refine bodyPost_ret (v:=.tuple #[logV d p n,.int .i64 1]) (by simp [results,Tryz.results72,go_sem,c1,c2,c3]) rfl ⟨by rw [HF.o],?_⟩;exact zq89
  ·cases h3:(n==60)
   ·have HF:=qh (show P.appI d p n c r=(p++(P.encode n c r).1,n+1,0) by unfold P.appI;rw [h1,h2,h3];rfl);have hn:=P.valid_n (P.records_valid d p n ▸ h1);obtain⟨hn0,hn1,_⟩:=hn;obtain⟨x,hx⟩:∃x,(P.encode n c r).1=x:=⟨_,rfl⟩;have HX:=qh hx
    have hxl:x.length≤10000:=by
     rw [←hx];obtain⟨m,rfl⟩:=Int.eq_ofNat_of_zero_le hn0;have h6:((m:Nat):Int)≠60:=by simpa using h3
     rw [P.encode_good (k:=m) oZ (P.vrec_good c r ▸ h2)];have:=(P.line_len (k:=m) oZ (P.vrec_good c r ▸ h2)).1
     show (P.line m c r).length≤10000
     omega
    clear hx
    go_enter Tryz.func72,Tryz.ntmps72
    go_wp2_with fail
    refine (isValidLog _ _ _ _ hd hp A1.o.env).mono ?_;rintro e w1 ⟨rfl,hb⟩;have A2:=qh (A1.o.carry hb);clear hb A1;obtain⟨⟨a1,a2,a3⟩,⟨b1,b2⟩,⟨c1,c2,c3⟩,⟨d1,d2,d3⟩,⟨e1,e2,e3⟩,hz,_⟩:=A2.o;rw [h1]
    go_wp2_with fail
    refine (isValidRecord _ _ _ oZ oZ).mono ?_;rintro e w2 ⟨rfl,hb⟩;have A3:=qh (A2.o.carry hb);clear hb A2;clear a1 a2 a3 b1 b2 c1 c2 c3 d1 d2 d3 e1 e2 e3 hz;obtain⟨⟨a1,a2,a3⟩,⟨b1,b2⟩,⟨c1,c2,c3⟩,⟨d1,d2,d3⟩,⟨e1,e2,e3⟩,hz,_⟩:=A3.o;rw [h2]
    go_wp2_with fail
    refine (encodeRecord _ _ _ _ oZ oZ A3.o.env).mono ?_;rintro e w3 ⟨rfl,hb⟩;rw [HX.o];have A4:=qh (A3.o.carry hb);clear hb A3;clear a1 a2 a3 b1 b2 c1 c2 c3 d1 d2 d3 e1 e2 e3 hz;obtain⟨⟨a1,a2,a3⟩,⟨b1,b2⟩,⟨c1,c2,c3⟩,⟨d1,d2,d3⟩,⟨e1,e2,e3⟩,hz,_⟩:=A4.o;have f1:¬9223372036854775807<p.length+x.length:=by omega
    go_wp2;refine bodyPost_ret (v:=.tuple #[logV d (p++x) (n+1),.int .i64 0]) (by simp [results,Tryz.results72,go_sem,c1,c2,c3]) rfl ⟨by rw [HF.o,HX.o],?_⟩;exact ((A4.o.below.setCell (by simp;omega) _).setCell (by simp;omega) _).setCell (by simp;omega) _
   ·have HF:=qh (show P.appI d p n c r=(p,n,2) by unfold P.appI;rw [h1,h2,h3];rfl)
    go_enter Tryz.func72,Tryz.ntmps72
    go_wp2_with fail
    refine (isValidLog _ _ _ _ hd hp A1.o.env).mono ?_;rintro e w1 ⟨rfl,hb⟩;have A2:=qh (A1.o.carry hb);clear hb A1;obtain⟨⟨a1,a2,a3⟩,⟨b1,b2⟩,⟨c1,c2,c3⟩,⟨d1,d2,d3⟩,⟨e1,e2,e3⟩,hz,_⟩:=A2.o;rw [h1]
    go_wp2_with fail
    refine (isValidRecord _ _ _ oZ oZ).mono ?_;rintro e w2 ⟨rfl,hb⟩;have A3:=qh (A2.o.carry hb);clear hb A2;clear a1 a2 a3 b1 b2 c1 c2 c3 d1 d2 d3 e1 e2 e3 hz;obtain⟨⟨a1,a2,a3⟩,⟨b1,b2⟩,⟨c1,c2,c3⟩,⟨d1,d2,d3⟩,⟨e1,e2,e3⟩,hz,_⟩:=A3.o;rw [h2];go_wp2;refine bodyPost_ret (v:=.tuple #[logV d p n,.int .i64 2]) (by simp [results,Tryz.results72,go_sem,c1,c2,c3]) rfl ⟨by rw [HF.o],?_⟩;exact zq89
end Go.Proofs.YtggfdnopminemaaGreatDoor.L
namespace Go.Proofs.YtggfdnopminemaaGreatDoor.P
def fmtE (e:Edit):Bs:=45::(num e.1.toNat++43::e.2)
abbrev Ses:=Dic×Tr
abbrev Ans:=Ses×Option Bs
def optB (r:Bs×Bool):Option Bs:=if r.2 then some r.1 else none
def typeN (d:Dic):Tr→List Int→Option Tr
 |t,[]=>some t
 |t,k::r=>if (press d t k).2 then typeN d (press d t k).1.1 r else none
def typed (s:Ses) (l:List Int):Ans:=match typeN s.1 s.2 l with
 |none=>(s,none)
 |some t=>((s.1,t),some (fmtE (least s.2.2 t.2)))
def delScr (s:Ses) (o:List Int):Bs×Bool:=scr (kept (delOk o s.1) (del o s.1)) s.2.1
def deleted (s:Ses) (o:List Int):Ans:=if delOk o s.1&&(delScr s o).2 then ((kept (delOk o s.1) (del o s.1),(s.2.1,(delScr s o).1)),some (fmtE (least s.2.2 (delScr s o).1))) else (s,none)
def wPress:Bs:=[112,114,101,115,115]
def wType:Bs:=[116,121,112,101]
def wDelete:Bs:=[100,101,108,101,116,101]
def wLookup:Bs:=[108,111,111,107,117,112]
def wDefine:Bs:=[100,101,102,105,110,101]
def wReverse:Bs:=[114,101,118,101,114,115,101]
def wJoin:Bs:=[106,111,105,110]
def wLoose:Bs:=[108,111,111,115,101]
def wUndo:Bs:=[117,110,100,111]
def wScreen:Bs:=[115,99,114,101,101,110]
def wCount:Bs:=[99,111,117,110,116]
def wPieces:Bs:=[112,105,101,99,101,115]
def wNone:Bs:=[110,111,110,101]
def wLong:Bs:=[108,111,110,103]
def wNo:Bs:=[110,111]
def wBad:Bs:=[98,97,100]
def wFull:Bs:=[102,117,108,108]
def outl (s:Ses) (word:Bs) (o:List Int):Ans:=if word=wType then typed s o else if word=wDelete then deleted s o else (s,optB (lookD o s.1))
def withO (s:Ses) (word more:Bs):Ans:=match parseO more with
 |none=>(s,none)
 |some o=>outl s word o
def outsOf (t:Bs) (l:Dic):List (List Int):=(l.filter fun e=>e.2==t).map (·.1)
def revT (d:Dic) (t:Bs):Bs:=if outsOf t d=[] then wNone else Go.Lib.join ((outsOf t d).map fun o=>(fmtS 47 o).map hash) [32]
def reversed (d:Dic) (more:Bs):Option Bs:=if (transS more).2 then some (revT d more) else none
def defined (s:Ses) (more:Bs):Ans:=match parseO (head 32 more) with
 |none=>(s,none)
 |some o=>if (head 32 more).length=more.length then (s,none) else
  if (redef s.1 s.2 (o,more.drop ((head 32 more).length+1))).2 then
   ((redef s.1 s.2 (o,more.drop ((head 32 more).length+1))).1.1,some (fmtE (redef s.1 s.2 (o,more.drop ((head 32 more).length+1))).1.2)) else (s,none)
def joined (more:Bs):Option Bs:=match split 32 more with
 |[a,b]=>optB (joinS a b)
 |_=>none
def loosed (more:Bs):Option Bs:=if (loose more).2 then some (fmt ((loose more).1:Int)) else none
def blank (l:List Pc):Nat:=(l.filter fun p=>p.2==[]).length
def alone (s:Ses) (word:Bs):Ans:=
 if word=wUndo then typed s [1024] else if word=wScreen then (s,some s.2.2) else if word=wCount then (s,some (num s.2.1.length))
 else if word=wPieces then (s,some ((num (segA s.1 s.2.1).length++[32])++num (blank (segA s.1 s.2.1)))) else (s,none)
def pressed (s:Ses) (more:Bs):Ans:=if (parse more).2 then typed s [((parse more).1:Int)] else (s,none)
def args (s:Ses) (word more:Bs):Ans:=
 if word=wPress then pressed s more else if word=wType∨word=wDelete∨word=wLookup then withO s word more
 else if word=wDefine then defined s more else if word=wReverse then (s,reversed s.1 more)
 else if word=wJoin then (s,joined more) else if word=wLoose then (s,loosed more) else (s,none)
def cmd (s:Ses) (line:Bs):Ans:=if (head 32 line).length=line.length then alone s (head 32 line) else args s (head 32 line) (line.drop ((head 32 line).length+1))
def replied (o:Option Bs):Bs:=match o with
 |none=>[63]
 |some r=>if 200<r.length then wLong else r
abbrev LogT:=Bs×Bs×Int
def logged (g:LogT) (c r:Bs):LogT:=(g.1,(appS g.1 g.2.1 g.2.2 c r).1,(appS g.1 g.2.1 g.2.2 c r).2.1)
def sesOk (s:Ses) (g:LogT):Bool:=sess s.1 s.2.1 s.2.2 g.1 g.2.1 g.2.2
def exec (s:Ses) (g:LogT) (line:Bs):(Ses×LogT)×Bs:=
 if !sesOk s g then ((s,g),wNo) else if !good line [] then ((s,g),wBad) else if g.2.2=60 then ((s,g),wFull)
 else (((cmd s line).1,logged g line (replied (cmd s line).2)),replied (cmd s line).2)
/-! ### cut and split -/
theorem cut_none (c:UInt8) (l:Bs) (h:c∉l):Go.Lib.cut l [c]=(l,[],false):=by
 unfold Go.Lib.cut;rw [idx_none c l h];rfl
theorem head_case (c:UInt8) (l:Bs):(c∉l∧Go.Lib.cut l [c]=(l,[],false)∧head c l=l) ∨
 ∃x y,l=x++c::y∧(∀b∈x,b≠c)∧Go.Lib.cut l [c]=(x,y,true)∧head c l=x∧l.drop ((head c l).length+1)=y∧(head c l).length<l.length:=by
 by_cases hm:c∈l
 ·obtain⟨x,y,e,hx⟩:=first_of_mem c l hm;refine .inr ⟨x,y,e,hx,by rw [e];exact cut_app c x y hx,by rw [e];exact head_app c x y hx,?_,?_⟩
  ·rw [e,head_app c x y hx,show x++c::y=(x++[c])++y by simp,show x.length+1=(x++[c]).length by simp,List.drop_left]
  ·rw [e,head_app c x y hx];simp
 ·exact .inl ⟨hm,cut_none c l hm,by unfold head;rw [split_none c l hm];rfl⟩
theorem cmd_cut (s:Ses) (line:Bs):cmd s line=if (Go.Lib.cut line [32]).2.2 then args s (Go.Lib.cut line [32]).1 (Go.Lib.cut line [32]).2.1 else alone s (Go.Lib.cut line [32]).1:=by
 unfold cmd
 rcases head_case 32 line with⟨_,h1,h2⟩|⟨x,y,_,_,h1,h2,h3,h4⟩
 ·rw [h1,h2,if_pos rfl];rfl
 ·rw [h1,if_neg oZ,h3,h2];rfl
theorem word_space {y:Bs} (h:(32:UInt8)∈y):isWord y=false:=by
 unfold isWord
 have:y.all lower=false:=by
  rw [List.all_eq_false];exact⟨32,h,by decide⟩
 rw [this];rfl
theorem joinS_no {x y:Bs} (h:isWord y=false):joinS x y=([],false):=by
 unfold joinS;rw [h,Bool.and_false];rfl
theorem joined_cut (more:Bs):optB (joinS (Go.Lib.cut more [32]).1 (Go.Lib.cut more [32]).2.1)=joined more:=by
 unfold joined
 rcases head_case 32 more with⟨h0,h1,h2⟩|⟨x,y,h0,hx,h1,_⟩
 ·rw [h1,split_none 32 more h0]
  show optB (joinS more [])=none
  rw [joinS_no dZ];rfl
 ·rw [h1,h0,split_app 32 y x hx]
  by_cases hy:(32:UInt8)∈y
  ·obtain⟨a,b,e,ha⟩:=first_of_mem 32 y hy
   show optB (joinS x y)=_
   rw [joinS_no (word_space hy),e,split_app 32 b a ha]
   cases hb:split 32 b with
   |nil=>exact absurd hb (split_ne 32 b)
   |cons _ _=>rfl
  ·rw [split_none 32 y hy]
theorem redef_empty (d:Dic) (t:Tr) (o:List Int):(redef d t (o,[])).2=false:=by
 have:insOk (o,[]) d=false:=by
  unfold insOk entry;rw [show (transS ([]:Bs)).2=false from by decide];simp
 rw [redef_no (by rw [this];simp)]
theorem defined_cut (s:Ses) (more:Bs):defined s more=match parseO (Go.Lib.cut more [32]).1 with
 |none=>(s,none)
 |some o=>if (redef s.1 s.2 (o,(Go.Lib.cut more [32]).2.1)).2 then ((redef s.1 s.2 (o,(Go.Lib.cut more [32]).2.1)).1.1,some (fmtE (redef s.1 s.2 (o,(Go.Lib.cut more [32]).2.1)).1.2)) else (s,none):=by
 unfold defined
 rcases head_case 32 more with⟨h0,h1,h2⟩|⟨x,y,h0,hx,h1,h2,h3,h4⟩
 ·rw [h1,h2]
  cases parseO more with
  |none=>rfl
  |some o=>simp only [redef_empty];simp
 ·rw [h1,h3]
  show _=match parseO x with
   |none=>(s,none)
   |some o=>if (redef s.1 s.2 (o,y)).2 then ((redef s.1 s.2 (o,y)).1.1,some (fmtE (redef s.1 s.2 (o,y)).1.2)) else (s,none)
  rw [h2]at h4⊢
  cases parseO x with
  |none=>rfl
  |some o=>
   show (if x.length=more.length then _ else _)=_
   rw [if_neg oZ]
/-! ### what a command keeps -/
theorem scr_trans {d:Dic} {l:List Int} (h:(scr d l).2=true) (h2:l.contains 1024=false):trans d (l,(scr d l).1)=true:=by
 unfold trans;rw [h,h2];simp
theorem typeN_trans {d:Dic}:∀{l:List Int} {t t':Tr},trans d t=true→typeN d t l=some t'→trans d t'=true
 |[],t,t',h,e=>by injection e with e;subst e;exact h
 |k::l,t,t',h,e=>by
  unfold typeN at e
  split at e
  ·rename_i hp;exact typeN_trans (press_trans hp) e
  ·cases e
theorem typed_trans {s:Ses} {l:List Int} (h:trans s.1 s.2=true):trans (typed s l).1.1 (typed s l).1.2=true:=by
 unfold typed
 cases hq:typeN s.1 s.2 l with
 |none=>exact h
 |some t=>exact typeN_trans h hq
end Go.Proofs.YtggfdnopminemaaGreatDoor.P
namespace Go.Proofs.YtggfdnopminemaaGreatDoor
open Go Go.RowKit
set_option maxHeartbeats 8000000
set_option maxRecDepth 100000
def SRows (lo B:Nat) (v:World) (u us:Value) (l:P.Dic) (st:List Int):Prop:=
 ∃F G:Blk,Ents v F u l∧Ints v G us st∧(∀b,F b→lo≤b∧b<v.heap.size∧b≠B)∧(∀b,G b→lo≤b∧b<v.heap.size∧b≠B)∧∀b,F b→¬G b
theorem SRows.stand {lo B:Nat} {v v':World} {u us:Value} {l:P.Dic} {st:List Int} {X:Blk} (h:SRows lo B v u us l st) (hc:Chg X v v') (hX:∀b,X b→b=B∨v.heap.size≤b):SRows lo B v' u us l st:=by
 obtain⟨F,G,h1,h2,h3,h4,h5⟩:=h;have hz:=hc.size;refine⟨F,G,h1.stand entE_ok hc (fun b hb hx=>?_),h2.stand intE_ok hc (fun b hb hx=>?_),fun b hb=>⟨(h3 b hb).1,Nat.lt_of_lt_of_le (h3 b hb).2.1 hz,(h3 b hb).2.2⟩,fun b hb=>⟨(h4 b hb).1,Nat.lt_of_lt_of_le (h4 b hb).2.1 hz,(h4 b hb).2.2⟩,h5⟩
 ·have:=h3 b hb;rcases hX b hx with e|e
  ·exact this.2.2 e
  ·omega
 ·have:=h4 b hb;rcases hX b hx with e|e
  ·exact this.2.2 e
  ·omega
theorem SRows.below {lo B:Nat} {v v':World} {u us:Value} {l:P.Dic} {st:List Int} (h:SRows lo B v u us l st) (hb:Below v.heap.size v v'):SRows lo B v' u us l st:=h.stand (Below.chg hb fun _=>False) fun _ h=>h.elim
theorem SRows.dic {lo B:Nat} {v:World} {u us:Value} {l:P.Dic} {st:List Int} (h:SRows lo B v u us l st):EntR v u l:=by obtain⟨F,G,h1,_⟩:=h;exact h1.read
theorem SRows.str {lo B:Nat} {v:World} {u us:Value} {l:P.Dic} {st:List Int} (h:SRows lo B v u us l st):IntR v us st:=by obtain⟨F,G,_,h2,_⟩:=h;exact Ints.read h2
theorem SRows.strokes {lo B m:Nat} {v v':World} {u us us':Value} {l:P.Dic} {st st':List Int} (h:SRows lo B v u us l st) (hb:Below v.heap.size v v') (hm:v.heap.size≤m) (hlo:lo≤v.heap.size) (hB:B<v.heap.size) (hk:OwnK m v' us' st') (hl:st'.length≤2^30):SRows lo B v' u us' l st':=by
 obtain⟨F,G,h1,h2,h3,h4,h5⟩:=h;have hz:=hb.size;refine⟨F,BetO m v'.heap.size us',h1.below entE_ok hb,ownK_ints hk hl,fun b hb=>⟨(h3 b hb).1,Nat.lt_of_lt_of_le (h3 b hb).2.1 hz,(h3 b hb).2.2⟩,fun b hb=>?_,fun b hb hg=>?_⟩
 ·have:=hb.1;exact⟨by omega,this.2,by omega⟩
 ·have h6:=(h3 b hb).2.1;have h7:=hg.1.1;omega
theorem SRows.other {lo B m n:Nat} {v v':World} {u us u':Value} {l l':P.Dic} {st:List Int} (h:SRows lo B v u us l st) (hb:Below v.heap.size v v') (hm:v.heap.size≤m) (hn:n≤v'.heap.size) (hlo:lo≤v.heap.size) (hB:B<v.heap.size) (hk:Ents v' (Bet m n) u' l'):SRows lo B v' u' us l' st:=by
 obtain⟨F,G,h1,h2,h3,h4,h5⟩:=h;have hz:=hb.size;refine⟨Bet m n,G,hk,h2.below intE_ok hb,fun b hb=>?_,fun b hb=>⟨(h4 b hb).1,Nat.lt_of_lt_of_le (h4 b hb).2.1 hz,(h4 b hb).2.2⟩,fun b hf hg=>?_⟩
 ·have h6:=hb.1;have h7:=hb.2;exact⟨by omega,by omega,by omega⟩
 ·have h6:=(h4 b hg).2.1;have h7:=hf.1;omega
theorem SRows.both {lo B m n:Nat} {v v':World} {u us:Value} {l:P.Dic} {st:List Int} (_hz:v.heap.size≤v'.heap.size) (hm:v.heap.size≤m) (hn:n≤v'.heap.size) (hmn:m≤n) (hlo:lo≤v.heap.size) (hB:B<v.heap.size) (h1:Ents v' (Bet m n) u l) (h2:OwnK n v' us st) (hl:st.length≤2^30):SRows lo B v' u us l st:=by
 refine⟨Bet m n,BetO n v'.heap.size us,h1,ownK_ints h2 hl,fun b hb=>?_,fun b hb=>?_,fun b hf hg=>?_⟩
 ·have h6:=hb.1;have h7:=hb.2;exact⟨by omega,by omega,by omega⟩
 ·have h6:=hb.1;exact⟨by omega,h6.2,by omega⟩
 ·have h6:=hf.2;have h7:=hg.1.1;omega
def SesM (lo B:Nat) (s:P.Ses) (g:P.LogT) (v:World):Prop:=
 L.EB≤B∧lo≤v.heap.size∧∃u us,SOut B u us s.2.2 g.1 g.2.1 g.2.2 v∧SRows lo B v u us s.1 s.2.1
theorem SesM.below {lo B:Nat} {s:P.Ses} {g:P.LogT} {v v':World} (h:SesM lo B s g v) (hb:Below v.heap.size v v'):SesM lo B s g v':=by
 obtain⟨h0,h1,u,us,h2,h3⟩:=h;exact⟨h0,Nat.le_trans h1 hb.size,u,us,h2.below hb,h3.below hb⟩
def okB (x:Str) (ok:Bool):Option Str:=if ok then some x else none
def MetPost (lo B:Nat) (a:P.Ans) (g:P.LogT) (w:World) (e:Ending) (w':World):Prop:=
 ∃x ok,e=.returned (.tuple #[.string (S x),.bool ok])∧okB x ok=a.2∧SesM lo B a.1 g w'∧Chg (fun b=>b=B) w w'
def txtB (o:Option Str):Str:=o.getD [63]
def FreshE (w v:World) (u0:Value) (l0:P.Dic) (u:Value) (l:P.Dic):Prop:=(u=u0∧l=l0)∨∃F:Blk,Ents v F u l∧∀b,F b→w.heap.size≤b
def FreshI (w v:World) (u0:Value) (l0:List Int) (u:Value) (l:List Int):Prop:=(u=u0∧l=l0)∨∃F:Blk,Ints v F u l∧∀b,F b→w.heap.size≤b
theorem FreshE.read {w v:World} {u0 u:Value} {l0 l:P.Dic} (h:FreshE w v u0 l0 u l) (h0:EntR w u0 l0) (hb:Below w.heap.size w v):EntR v u l:=by
 rcases h with⟨rfl,rfl⟩|⟨F,h1,_⟩
 ·exact h0.below hb
 ·exact Ents.read h1
theorem FreshI.read {w v:World} {u0 u:Value} {l0 l:List Int} (h:FreshI w v u0 l0 u l) (h0:IntR w u0 l0) (hb:Below w.heap.size w v):IntR v u l:=by
 rcases h with⟨rfl,rfl⟩|⟨F,h1,_⟩
 ·exact h0.below hb
 ·exact Ints.read h1
theorem FreshE.after {w w1 v v':World} {u0 u:Value} {l0 l:P.Dic} {X:Blk} (h:FreshE w1 v u0 l0 u l) (hw:w.heap.size≤w1.heap.size) (hc:Chg X v v') (hX:∀b,X b→b<w1.heap.size):FreshE w v' u0 l0 u l:=
 h.imp id fun⟨F,h1,h2⟩=>⟨F,h1.stand entE_ok hc (fun b hb hx=>by have g1:=h2 b hb;have g2:=hX b hx;omega),fun b hb=>Nat.le_trans hw (h2 b hb)⟩
theorem FreshI.after {w w1 v v':World} {u0 u:Value} {l0 l:List Int} {X:Blk} (h:FreshI w1 v u0 l0 u l) (hw:w.heap.size≤w1.heap.size) (hc:Chg X v v') (hX:∀b,X b→b<w1.heap.size):FreshI w v' u0 l0 u l:=
 h.imp id fun⟨F,h1,h2⟩=>⟨F,h1.stand intE_ok hc (fun b hb hx=>by have g1:=h2 b hb;have g2:=hX b hx;omega),fun b hb=>Nat.le_trans hw (h2 b hb)⟩
def AnsPost (u0 us0:Value) (s0:P.Ses) (a:P.Ans) (g:P.LogT) (w:World) (e:Ending) (w':World):Prop:=
 ∃u us,e=.returned (.tuple #[sessV u us a.1.2.2 g.1 g.2.1 g.2.2,.string (S (txtB a.2))])∧FreshE w w' u0 s0.1 u a.1.1∧FreshI w w' us0 s0.2.1 us a.1.2.1∧Below w.heap.size w w'
end Go.Proofs.YtggfdnopminemaaGreatDoor
