/- Walks: the reference's. -/
import Derived.Test.YtggfdnopminemaaGreatDoorPut2
set_option linter.all false
namespace Go.Proofs.YtggfdnopminemaaGreatDoor
open Go.Proofs.Tryz
open Go Go.RowKit
set_option maxHeartbeats 8000000
set_option maxRecDepth 100000
variable {v w:Go.World}
def PAhead (w:World) (dv x:Value) (o:List Int) (t:Str) (C:Nat) (y:Value) (F:Blk) (v:World):Prop:=
 PBx w.heap.size dv x t (.slice none 0 0) v/\OBx C y t v/\Ints v F y o/\PFix w.heap.size C v.heap.size F/\Bl w v
theorem b2z {B g:Nat} (h:Below B w v) (hg:B<=g) (i j:Nat) (x y:Value):Below B w ((v.setCell ⟨g,i,none⟩ x).setCell ⟨g,j,none⟩ y):=(h.setCell (p:=⟨g,i,none⟩) hg x).setCell (p:=⟨g,j,none⟩) hg y
def d8d (l:P.Dic) (w:World) (e:Ending) (w':World):Prop:=∃u,e=.returned (.agg #[u])/\Ents w' (Bet w.heap.size w'.heap.size) u l/\(∃B xs,w.heap.size<=B/\w'.ownsRow B 119 2 u l.length xs)/\Bl w w'
theorem PInv.whole {dv x y u:Value} {o:List Int} {t:Str} {C B1:Nat} {F:Blk} {put:Bool} {row:P.Dic} {xs:List Value} (h:PInv w dv x o t C y F B1 put row u xs v) (hf:PFix w.heap.size C B1 F) (z:Value):(v.setCell ⟨w.heap.size+2,0,none⟩ z).ownsRow B1 119 2 u row.length xs:=by
 have h1:=hf.b1;refine a1e h.2.2.2.1.owns ((Chg.refl (λb=>b=w.heap.size+2) v).setCell (p:=⟨w.heap.size+2,0,none⟩) rfl z) λk hk e=>?_;have:=(World.ownsRow.lt h.2.2.2.1.owns k hk).1;omega
theorem e0a (dv x:Value) (l:P.Dic) (o:List Int) (t:Str) (w:World) (hu:EntR w dv l) (ho:IntR w x o) (hl:l.length<=2^20) (hle:∀e∈l,e.1.length<=2^20) (hol:o.length<=2^20) :
 Cz 188 #[.agg #[dv],.agg #[x,.string (S t)]] w (d8d (P.putF (o,t) false l) w):=by
 obtain⟨i0,hi,hz0,hz1,hz2⟩:=info_parts a4z
 have hb0:Bl w ((((w.alloc (.cells #[dv] 26)).alloc (.cells #[x,.string (S t)] 119)).alloc (.cells #[.slice none 0 0] 26)).alloc (.cells #[.slice none 0 0] 26)):=((((Below.refl w.heap.size w).alloc lZ _).alloc sZ _).alloc (by simp;omega) _).alloc (by simp;omega) _
 have HU:=qh hu;have HO:=qh (ho.below hb0);have HOW0:=qh ho
 have HBX:=qh (show PBx w.heap.size dv x t (.slice none 0 0) ((((w.alloc (.cells #[dv] 26)).alloc (.cells #[x,.string (S t)] 119)).alloc (.cells #[.slice none 0 0] 26)).alloc (.cells #[.slice none 0 0] 26)) by refine⟨?_,?_,?_,?_,?_,?_,?_⟩<;>go_simp)
 have HB0:=qh hb0;clear hb0
 have HZ4:=qh (show ((((w.alloc (.cells #[dv] 26)).alloc (.cells #[x,.string (S t)] 119)).alloc (.cells #[.slice none 0 0] 26)).alloc (.cells #[.slice none 0 0] 26)).heap.size=w.heap.size+4 by simp)
 have HLE:=qh hle;clear hle
 obtain⟨dad,dcap,rfl,_,_⟩:=hu
 obtain⟨od,oc,rfl,_,_⟩:=ho
 have HOD:=qh (HO.o.below bZ.drew)
 have HBXD:=qh (HBX.o.step bZ.drew)
 have HBD:=qh (HB0.o.trans bZ.drew)
 have HS:=qh (show KR3 w.heap.size (.slice od o.length oc) t ((((w.alloc (.cells #[.slice dad l.length dcap] 26)).alloc (.cells #[.slice od o.length oc,.string (S t)] 119)).alloc (.cells #[.slice none 0 0] 26)).alloc (.cells #[.slice none 0 0] 26)).drew from⟨HBXD.o.2.1,HBXD.o.2.2.1⟩)
 go_enter func188,ntmps188
 go_upto_region 3 with fail
 go_cut [7] (λp wx=>∃(C:Nat) (y:Value) (F:Blk),p=.pointer (some ⟨C,0,none⟩)/\PAhead w (.slice dad l.length dcap) (.slice od o.length oc) o t C y F wx)
 case first=>
  have zd:((((w.alloc (.cells #[.slice dad l.length dcap] 26)).alloc (.cells #[.slice od o.length oc,.string (S t)] 119)).alloc (.cells #[.slice none 0 0] 26)).alloc (.cells #[.slice none 0 0] 26)).drew.heap.size=w.heap.size+4:=HZ4.o;have ZD:=qh zd;clear zd;refine wp_region_held_drew (S:=KR3 w.heap.size (.slice od o.length oc) t) kZ HS.o (λhS0=>?_);refine tk4 0 hS0 ?_;refine tk4 1 hS0 ?_;refine tk4 3 hS0 ?_;refine tk4 4 hS0 ?_;refine wpAnyH_ready (rs:=[2,6]) kZ sZ ?_;refine AllReadyH.cons rfl (λK hK=>?_) (AllReadyH.cons rfl (λK hK=>?_) AllReadyH.nil)
  .skip;go_simp;refine (d0v _ o _ HOD.o oZ).mono ?_;rintro e v1 ⟨x1,rfl,hI,hb⟩;rw [ZD.o]at hI;have hz1':w.heap.size+4<=v1.heap.size:=by have:=hb.size;rw [ZD.o]at this;exact this
   unfold Bl at hb;rw [ZD.o]at hb;refine hK.out _ _ (hS0.step hb) (λhS1=>?_);clear hK K;have HBX1:=qh (HBXD.o.step hb);have HB1:=qh (HBD.o.trans (hb.mono oZ));have HI:=qh hI;obtain⟨xd,xc,rfl,_,_⟩:=hI;clear hb;refine zm0 ?_;refine tk4 5 hS1 ?_;refine trd 6 λK hK=>?_;go_simp;refine hK.out _ _ (hS1.step (bZ.alloc hz1' _)) (λhS2=>?_);clear hK K;refine zm0 ?_;refine trd 7 λK hK=>?_;go_simp;refine hK.out _ _ (hS1.step (bZ.alloc hz1' _)) (λhS3=>?_);clear hK K;refine zm0 ?_;refine wpAnyH_done kZ ?_ _;go_wp2_with fail;go_meet;refine⟨v1.heap.size,.slice xd o.length xc,Bet (w.heap.size+4) v1.heap.size,rfl,?_,⟨by go_simp,by go_simp,by simp⟩,?_,⟨by simp;omega,hz1',by simp,λb hb=>⟨hb.1,by have:=hb.2;simp;omega,by have:=hb.2;omega⟩⟩,?_⟩
   .exact HBX1.o.step (bZ.alloc hz1' _)
   .exact HI.o.a0b a1k ((Chg.refl (λ_=>False) v1).alloc _) (λb hb e=>e)
   .exact HB1.o.alloc oZ _
  .skip;go_simp;have hba:=(Below.refl ((((w.alloc (.cells #[.slice dad l.length dcap] 26)).alloc (.cells #[.slice od o.length oc,.string (S t)] 119)).alloc (.cells #[.slice none 0 0] 26)).alloc (.cells #[.slice none 0 0] 26)).drew.heap.size ((((w.alloc (.cells #[.slice dad l.length dcap] 26)).alloc (.cells #[.slice od o.length oc,.string (S t)] 119)).alloc (.cells #[.slice none 0 0] 26)).alloc (.cells #[.slice none 0 0] 26)).drew).alloc lZ (.cells #[.slice none 0 0,.string (S [])] 119);refine hK.out _ _ (hS0.step (hba.mono (by rw [ZD.o];exact Nat.le_refl _))) (λhS1=>?_);clear hK K;have HOD2:=qh (HOD.o.below hba);have HBXD2:=qh (HBXD.o.step (hba.mono (by rw [ZD.o];exact Nat.le_refl _)));have HBD2:=qh (HBD.o.trans (hba.mono (by rw [ZD.o];omega)));have ZD2:=qh (show (((((w.alloc (.cells #[.slice dad l.length dcap] 26)).alloc (.cells #[.slice od o.length oc,.string (S t)] 119)).alloc (.cells #[.slice none 0 0] 26)).alloc (.cells #[.slice none 0 0] 26)).drew.alloc (.cells #[.slice none 0 0,.string (S [])] 119)).heap.size=w.heap.size+5 by simp);have c0:(((((w.alloc (.cells #[.slice dad l.length dcap] 26)).alloc (.cells #[.slice od o.length oc,.string (S t)] 119)).alloc (.cells #[.slice none 0 0] 26)).alloc (.cells #[.slice none 0 0] 26)).drew.alloc (.cells #[.slice none 0 0,.string (S [])] 119)).cell? ⟨w.heap.size+4,0,none⟩=some (.slice none 0 0):=by rw [<-ZD.o];go_simp
   have c1:(((((w.alloc (.cells #[.slice dad l.length dcap] 26)).alloc (.cells #[.slice od o.length oc,.string (S t)] 119)).alloc (.cells #[.slice none 0 0] 26)).alloc (.cells #[.slice none 0 0] 26)).drew.alloc (.cells #[.slice none 0 0,.string (S [])] 119)).cell? ⟨w.heap.size+4,1,none⟩=some (.string (S [])):=by rw [<-ZD.o];go_simp
   have f0:(((((w.alloc (.cells #[.slice dad l.length dcap] 26)).alloc (.cells #[.slice od o.length oc,.string (S t)] 119)).alloc (.cells #[.slice none 0 0] 26)).alloc (.cells #[.slice none 0 0] 26)).drew.alloc (.cells #[.slice none 0 0,.string (S [])] 119)).frozen? ⟨w.heap.size+4,0,none⟩=false:=by rw [<-ZD.o];go_simp
   have f1:(((((w.alloc (.cells #[.slice dad l.length dcap] 26)).alloc (.cells #[.slice od o.length oc,.string (S t)] 119)).alloc (.cells #[.slice none 0 0] 26)).alloc (.cells #[.slice none 0 0] 26)).drew.alloc (.cells #[.slice none 0 0,.string (S [])] 119)).frozen? ⟨w.heap.size+4,1,none⟩=false:=by rw [<-ZD.o];go_simp
   clear hba;refine zm0 ?_;refine trd 2 λK hK=>?_;go_simp;refine (d0v _ o _ HOD2.o oZ).mono ?_;rintro e v1 ⟨x1,rfl,hI,hb⟩;rw [ZD2.o]at hI;have hz1':w.heap.size+5<=v1.heap.size:=by have:=hb.size;rw [ZD2.o]at this;exact this
   unfold Bl at hb;rw [ZD2.o]at hb;refine hK.out _ _ (hS1.step (hb.mono oZ)) (λhS2=>?_);clear hK K;have HBX1:=qh (HBXD2.o.step (hb.mono oZ));have HB1:=qh (HBD2.o.trans (hb.mono oZ));have d0:=(hb.cell (p:=⟨w.heap.size+4,0,none⟩) (by show w.heap.size+4<w.heap.size+5;omega)).trans c0;have d1:=(hb.cell (p:=⟨w.heap.size+4,1,none⟩) (by show w.heap.size+4<w.heap.size+5;omega)).trans c1;have e0:=(hb.frozen (p:=⟨w.heap.size+4,0,none⟩) (by show w.heap.size+4<w.heap.size+5;omega)).trans f0;have e1:=(hb.frozen (p:=⟨w.heap.size+4,1,none⟩) (by show w.heap.size+4<w.heap.size+5;omega)).trans f1;clear c0 c1 f0 f1;have HI:=qh hI;obtain⟨xd,xc,rfl,_,_⟩:=hI;clear hb;refine zm0 ?_;refine tk4 5 hS2 ?_;refine trd 7 λK hK=>?_;go_simp;refine hK.out _ _ (hS2.step (b2z bZ lZ _ _ _ _)) (λhS3=>?_);clear hK K;refine zm0 ?_;refine wpAnyH_done kZ ?_ _;go_wp2_with fail;go_meet;refine⟨w.heap.size+4,.slice xd o.length xc,Bet (w.heap.size+5) v1.heap.size,rfl,?_,⟨by go_simp,by go_simp,by simp;omega⟩,?_,⟨by simp;omega,by omega,by simp;omega,λb hb=>⟨by have:=hb.1;omega,by have:=hb.2;simp;omega,by have:=hb.1;omega⟩⟩,?_⟩
   .exact HBX1.o.step (b2z bZ lZ _ _ _ _)
   .exact HI.o.a0b a1k (((Chg.refl (λb=>b=w.heap.size+4) v1).setCell (by show w.heap.size+4=_;rfl) _).setCell (by show w.heap.size+4=_;rfl) _) (λb hb e=>by have:=hb.1;omega)
   .exact b2z HB1.o (show w.heap.size<=w.heap.size+4 by omega) _ _ _ _
 case rest=>
  clear HO HBX HB0 HZ4 HOD HBXD HBD HS;obtain⟨C,y,F,rfl,hbx,hob,hown,hfix,hbw⟩:=hcut;have HF:=qh hfix;obtain⟨B1,hB1⟩:∃B1,wc.heap.size=B1:=⟨_,rfl⟩;rw [hB1]at HF
  have HP0:=qh (show PInv w (.slice dad l.length dcap) (.slice od o.length oc) o t C y F B1 false [] (.slice none 0 0) [] wc from
   ⟨hbx,hob,λ_=>hown,AccR.nil (World.ownsRow_nil _ _ _ _) oZ (λb hb=>(HF.o.f b hb.2).2.1),hbw⟩)
  clear hfix hbx hob hown hbw hB1
  go_wp2_with fail
  go_loopw [6,8] (λp i wr=>∃(j:Nat) (u:Value) (xs:List Value),j<=l.length/\i=.int .i64 j/\p=.bool (P.a1m (o,t) (l.take j)).2/\PInv w (.slice dad l.length dcap) (.slice od o.length oc) o t C y F B1 (P.a1m (o,t) (l.take j)).2 (P.a1m (o,t) (l.take j)).1 u xs wr) (λ_ i _=>l.length-(intOf i).toNat)
  case atStart=>exact⟨0,_,_,Nat.zero_le _,rfl,rfl,HP0.o⟩
  case round=>
   clear HP0;obtain⟨j,u,xs,hj,rfl,rfl,hp⟩:=hrel;have HP:=qh hp;obtain⟨b0,b1,b2,b3,b4,f2,f3⟩:=hp.1;have HPZ:=qh hp.size;have hfl:=P.b6x (o,t) (l.take j);have HFL:=qh (show (P.a1m (o,t) (l.take j)).1.length<=j+(P.a1m (o,t) (l.take j)).2.toNat by have h:(l.take j).length=j:=(by rw [List.length_take];omega);rw [h]at hfl;exact hfl);clear hfl
   by_cases hlt:j<l.length
   .obtain⟨g,q,hga,hgs,xe,c0,c1,hx⟩:=HU.o.at j hlt;have hgw:g<w.heap.size:=hgs;have HEN:=qh (a0g l j hlt);have hll:=HLE.o _ (List.getElem_mem hlt);have HX:=qh (hx.below hp.2.2.2.2);have HOR:=qh (HOW0.o.below hp.2.2.2.2);have cc0:=(hp.2.2.2.2.cell (p:=⟨g,_,none⟩) hgs).trans c0;have cc1:=(hp.2.2.2.2.cell (p:=⟨g,_,none⟩) hgs).trans c1;have HS:Hq (KR7 w.heap.size (.slice dad l.length dcap) (.slice od o.length oc) g (q+j*2) xe wr.drew):=⟨KR7.step ⟨b0,b1,cc0,hgw⟩ bZ.drew⟩;have HCC:=qh (And.intro cc0 cc1);have HCW:=qh (And.intro c0 c1);have HXO:=qh hx;have HFN:=qh (show P.a1m (o,t) (l.take (j+1))=P.a1s (o,t) (P.a1m (o,t) (l.take j)) l[j] by rw [a0g l j hlt,P.c2d]);obtain⟨xd,xc,rfl,_,_⟩:=hx;subst hga;generalize l[j]=en at *;obtain⟨eo,et⟩:=en;simp only at hll HX HS HCC HCW HXO;generalize P.a1m (o,t) (l.take j)=s at *;obtain⟨row,put⟩:=s;simp only at HP HFL;have i1:(j:Int)<(l.length:Int):=by omega
    have HRL:=qh (show row.length<=2^21 by have h:=HFL.o;have h2:put.toNat<=1:=Bool.toNat_le put;omega);clear hp cc0 cc1 c0 c1 b1 b2 b3 b4 f2 f3 HFL;go_upto_region 7 with fail;refine wp_region_held_drew (S:=KR7 w.heap.size (.slice (some ⟨g,q,none⟩) l.length dcap) (.slice od o.length oc) g (q+j*2) (.slice xd eo.length xc)) kZ HS.o (λhS0=>?_);refine zm33 ?_;refine tk0 3 (v:=.pointer (some ⟨g,q+j*2,none⟩)) hS0 ?_;refine tk0 4 (v:=.pointer (some ⟨g,q+j*2,none⟩)) hS0 ?_;refine tk0 5 hS0 ?_;refine tk0 6 hS0 ?_;refine tk0 7 hS0 ?_;refine trd 8 λK hK=>?_;have HXD:=qh (HX.o.below bZ.drew);have HORD:=qh (HOR.o.below bZ.drew);go_simp;refine (b6c _ _ eo o _ HXD.o HORD.o).mono ?_;rintro e v1 ⟨rfl,hb1⟩;have HB1:Hq (Bl wr v1):=⟨(Below.refl wr.heap.size wr).drew.trans hb1⟩;refine hK.out _ _ (hS0.step (hb1.mono (by have h1:=HPZ.o;have h2:=HF.o.b1;show w.heap.size+4<=wr.heap.size;omega))) (λhS1=>?_);clear hK K hb1;refine zm0 ?_;refine tk0 9 hS1 ?_;refine wpAnyH_done kZ ?_ _;have HP1:=qh (HP.o.below HF.o HB1.o);have HX1:=qh (HX.o.below HB1.o);have hgv:g<wr.heap.size:=by have h1:=HPZ.o;have h2:=HF.o.b1;omega
    have HC1:=qh (And.intro ((HB1.o.cell (p:=⟨g,_,none⟩) hgv).trans HCC.o.1) ((HB1.o.cell (p:=⟨g,_,none⟩) hgv).trans HCC.o.2));clear hS0 hS1 HS HXD HORD HX HP HPZ HB1 HCC HOR hgv;go_upto_region 8 with fail;go_cut [38] (λp wx=>p=.bool (decide (0<=P.cmp eo o)&&!put)/\wx=v1)
    case first=>
     by_cases h0:0<=P.cmp eo o
     .go_wp2_with fail
      go_meet;exact⟨by rw [decide_eq_true h0,Bool.true_and],rfl⟩
     .go_wp2_with fail
      go_meet;exact⟨by rw [decide_eq_false oZ];rfl,rfl⟩
    obtain⟨rfl,rfl⟩:=hcut
    go_upto_if 38 with fail
    go_cut [6] (λp wx=>∃(u:Value) (xs:List Value),p=.bool (P.a1s (o,t) (row,put) (eo,et)).2/\PInv w (.slice (some ⟨g,q,none⟩) l.length dcap) (.slice od o.length oc) o t C y F B1 (P.a1s (o,t) (row,put) (eo,et)).2 (if decide (0<=P.cmp eo o)&&!put then row++[(o,t)] else row) u xs wx/\Bl w wx)
    case first=>
     cases hcd:decide (0<=P.cmp eo o)&&!put
     .have HCD:=qh hcd
      have HST:=qh (show (P.a1s (o,t) (row,put) (eo,et)).2=put by
       unfold P.a1s
       cases put
       .simpa using hcd
       .simp)
      clear hcd;go_wp2;go_meet;refine⟨u,xs,by rw [HST.o],?_,HP1.o.2.2.2.2⟩;rw [HST.o,if_neg (by rw [HCD.o];decide)];exact HP1.o
     .have h0:0<=P.cmp eo o:=by simp at hcd;exact hcd.1
      obtain rfl:put=false:=by simp at hcd;exact hcd.2
      .have HST:=qh (show (P.a1s (o,t) (row,false) (eo,et)).2=true by unfold P.a1s;simp [h0]);have H0:=qh h0;clear h0 hcd;obtain⟨b0,b1,b2,b3,b4,f2,f3⟩:=HP1.o.1;obtain⟨k0,k1,k2⟩:=HP1.o.2.1;have HY:=qh (HP1.o.2.2.1 rfl);have HAC:=qh HP1.o.2.2.2.1;have HVZ:=qh HP1.o.size;obtain⟨uad,ucap,rfl⟩:=HP1.o.2.2.2.1.form;obtain⟨yd,yc,rfl,_,_⟩:=HP1.o.2.2.1 rfl;have hba:=(Below.refl wc.heap.size wc).alloc lZ (.cells #[.slice yd o.length yc,.string (S t)] 119);have HOW:=qh (HAC.o.keep a0e hba).owns;have BX:=qh (HP1.o.1.step (hba.mono (by have:=HF.o.b1;have:=HVZ.o;omega)));clear hba
       go_wp2_with (at_builtin;refine wpList_append_lies _ rfl _ _ 24 rfl B1 119 i0 (.agg #[.slice none 0 0,.string ⟨#[]⟩]) 2 40 underlying24 hi hz0 hz1 hz2 rfl dZ (.slice uad row.length ucap) row.length xs rfl HOW.o ⟨wc.heap.size,0,none⟩ 1 1 [.slice yd o.length yc,.string (S t)] rfl rfl ?_ ?_ (Nat.zero_lt_one) ?_ ?_ ?_ _ rfl ?_)
       all_goals first|exact⟨rfl,rfl⟩|(intro y hy;simp only [List.mem_cons,List.not_mem_nil,or_false]at hy;rcases hy with rfl|rfl<;>rfl)|(have:=HRL.o;unfold maxLen;omega)|(have:=HRL.o;omega)|(have h1:=HVZ.o;simp;omega)|(intro i y hy;rcases i with _|_|i;(injection hy with hy;subst hy;rw [add0];go_simp);(injection hy with hy;subst hy;rw [add0];go_simp);cases hy)|skip
       intro g1 cap1 v3 hown hgr hat hlt3;have hb3:Below B1 (wc.alloc (.cells #[.slice yd o.length yc,.string (S t)] 119)) v3:=bZ.grown hgr (by have h1:=HVZ.o;simp;omega) (λk hk=>(World.ownsRow.lt HOW.o k hk).1);obtain⟨_,_,_,d3,d4,e2,e3⟩:=BX.o.step (hb3.mono HF.o.b1);have HAP:=qh (HP1.o.app (put':=true) (a:=(o,t)) (F':=F) (v1:=wc) HF.o bZ (λb hb=>⟨.inr ⟨⟨rfl,hb⟩,λh=>by cases h.1⟩,by have:=(HF.o.f b hb).2.1;have:=HVZ.o;omega⟩) (λ_=>rfl) (b0i HY.o) rfl (bZ.alloc lZ _) hown hgr (by simpa using hat));clear hown hgr hat hlt3 hb3 HOW BX HY HAC k0 k1 k2 b0 b1 b2 b3 b4 f2 f3;go_wp2;go_meet;refine⟨.slice (some ⟨g1,0,none⟩) (row.length+1) cap1,xs++[.slice yd o.length yc,.string (S t)],by rw [HST.o],?_,HAP.o.2.2.2.2⟩;rw [HST.o,if_pos (by simp [H0.o])];exact HAP.o
    case rest=>
     clear HP1;obtain⟨u,xs,rfl,hp,hbw⟩:=hcut;have HBW:=qh hbw;clear hbw;have HP2:=qh hp;have HS1:Hq (P.a1s (o,t) (row,put) (eo,et)=((if decide (0<=P.cmp eo o)&&!put then row++[(o,t)] else row)++(if decide (P.cmp eo o=0) then [] else [(eo,et)]),(P.a1s (o,t) (row,put) (eo,et)).2)):=⟨rfl⟩;have HRW:=qh (show (if decide (0<=P.cmp eo o)&&!put then row++[(o,t)] else row).length<=2^22 by have:=HRL.o;split<;>simp<;>omega);clear HRL;generalize (if decide (0<=P.cmp eo o)&&!put then row++[(o,t)] else row)=row2 at *;have hsn:∃put2,(P.a1s (o,t) (row,put) (eo,et)).2=put2:=⟨_,rfl⟩;obtain⟨put2,hsn⟩:=hsn;rw [hsn]at hp⊢;have HP:Hq (PInv w (.slice (some ⟨g,q,none⟩) l.length dcap) (.slice od o.length oc) o t C y F B1 put2 row2 u xs wc):=⟨hp⟩;have HFN2:=qh (show P.a1m (o,t) (l.take (j+1))=(row2++(if decide (P.cmp eo o=0) then [] else [(eo,et)]),put2) by rw [HFN.o,HS1.o,hsn]);clear hsn HP2 HS1 HFN hp
     by_cases h1:P.cmp eo o=0
     .have HFN3:=qh (show P.a1m (o,t) (l.take (j+1))=(row2,put2) by rw [HFN2.o,h1];simp);clear HFN2;go_wp2
      go_roundw
      case rel=>exact⟨j+1,u,xs,by omega,by go_num,by rw [HFN3.o],by rw [HFN3.o];exact HP.o⟩
      case measure=>exact zq
     .have HFN3:=qh (show P.a1m (o,t) (l.take (j+1))=(row2++[(eo,et)],put2) by rw [HFN2.o];simp [h1]);clear HFN2;have HPZ:=qh HP.o.size;obtain⟨uad,ucap,rfl⟩:=HP.o.2.2.2.1.form;obtain⟨b0,b1,b2,b3,b4,f2,f3⟩:=HP.o.1;have hgz:g<wc.heap.size:=by have h1:=HPZ.o;have h2:=HF.o.b1;omega
      have cc0:=(HBW.o.cell (p:=⟨g,q+j*2,none⟩) hgw).trans HCW.o.1;have cc1:=(HBW.o.cell (p:=⟨g,q+j*2+1,none⟩) hgw).trans HCW.o.2;have HX:=qh (HXO.o.below HBW.o)
      have HS:=qh (show KRP w.heap.size (.slice (some ⟨g,q,none⟩) l.length dcap) (.slice uad row2.length ucap) g (q+j*2) (.slice xd eo.length xc) et wc.drew from
       KRP.step ⟨b0,b4,cc0,cc1,f3,hgw⟩ bZ.drew)
      clear cc0 cc1 b1 b2 b3 f2;go_upto_region 12 with fail;refine Left.region [19] (S:=KRP w.heap.size (.slice (some ⟨g,q,none⟩) l.length dcap) (.slice uad row2.length ucap) g (q+j*2) (.slice xd eo.length xc) et) kZ HS.o (λhS0=>?_);refine lk3 0 hS0 ?_;refine lk3 1 hS0 ?_;refine lk3 2 hS0 ?_;refine lk3 3 hS0 ?_;refine lk3 4 hS0 ?_;refine lk3 5 (v:=.pointer (some ⟨g,q+j*2,none⟩)) hS0 ?_;refine lk3 6 (v:=.pointer (some ⟨g,q+j*2,none⟩)) hS0 ?_;refine lk3 7 hS0 ?_;refine lk3 9 hS0 ?_;refine lk3 10 hS0 ?_;refine lk3 11 hS0 ?_;refine lk3 12 (v:=.pointer (some ⟨g,q+j*2,none⟩)) hS0 ?_;refine lk3 13 (v:=.pointer (some ⟨g,q+j*2+1,none⟩)) hS0 ?_;refine lk3 14 hS0 ?_;refine lrd 8 λK hK=>?_;have HXD:=qh (HX.o.below bZ.drew);have HB4:=qh (show w.heap.size+4<=wc.heap.size by have h1:=HPZ.o;have h2:=HF.o.b1;omega);go_simp;refine (d0v _ eo _ HXD.o oZ).mono ?_;rintro e v1 ⟨x1,rfl,hI,hb1⟩;have HB1:Hq (Bl wc v1):=⟨(Below.refl wc.heap.size wc).drew.trans hb1⟩;have HI:Hq (Ints v1 (Bet wc.heap.size v1.heap.size) x1 eo):=⟨hI⟩;have HZ1:Hq (wc.heap.size<=v1.heap.size):=⟨hb1.size⟩;obtain⟨x1d,x1c,rfl,_,_⟩:=hI;refine a2a hK dZ (hS0.step (hb1.mono HB4.o)) (λhS1=>?_);clear hK K hb1;refine zm0 ?_;refine lk3 15 hS1 ?_;refine lrd 16 λK hK=>?_;go_simp;refine a2a hK dZ (hS1.step (bZ.alloc (Nat.le_trans HB4.o HZ1.o) _)) (λhS2=>?_);clear hK K;refine zm0 ?_;refine lrd 17 λK hK=>?_;have HA2:=qh ((HP.o.2.2.2.1.keep a0e HB1.o).keep a0e ((Below.refl v1.heap.size v1).alloc lZ (.cells #[.slice x1d eo.length x1c,.string (S et)] 119)));refine step_append_lies _ rfl _ _ 24 rfl B1 119 i0 (.agg #[.slice none 0 0,.string ⟨#[]⟩]) 2 40 underlying24 hi hz0 hz1 hz2 rfl dZ (.slice uad row2.length ucap) row2.length xs rfl HA2.o.owns ⟨v1.heap.size,0,none⟩ 1 1 [.slice x1d eo.length x1c,.string (S et)] rfl rfl ?_ ?_ dZ (by have:=HRW.o;unfold maxLen;omega) (by have:=HRW.o;omega) ?_ _ rfl ?_
      .exact zq23
      .intro y hy;exact zq37
      .have h1:=HZ1.o;have h2:=HPZ.o;simp;omega
      intro g1 cap1 v3 hown hgr hat hlt3
      have hb3:Below B1 (v1.alloc (.cells #[.slice x1d eo.length x1c,.string (S et)] 119)) v3:=
       bZ.grown hgr (by have h1:=HZ1.o;have h2:=HPZ.o;simp;omega) (λk hk=>(World.ownsRow.lt HA2.o.owns k hk).1)
      have hS3:=hS2.step (hb3.mono HF.o.b1);have hsc:=hS3.2.1;have hsf:=hS3.2.2.2.2.1;have HAP:=qh (HP.o.app (put':=put2) (a:=(eo,et)) (F':=Bet wc.heap.size v1.heap.size) (v1:=v1) HF.o HB1.o (λb hb=>⟨.inl hb.1,hb.2⟩) (λh=>h) (b0i HI.o) rfl (bZ.alloc lZ _) hown hgr (by simpa using hat));refine a2a hK dZ hS3 (λhS4=>?_);clear hK K hown hgr hat hS2 hS1 HB1 HI HA2 HX HXD HXO HS hb3 HP;refine zm0 ?_;refine lk3 18 hS4 ?_;refine lrd 19 λK hK=>?_;go_simp;refine a4b hK dZ ?_;clear hK K hS0;refine zm0 ?_;refine Left.done kZ ?_ _;clear hsc hsf hS3 hS4;generalize v3.setCell ⟨w.heap.size+3,0,none⟩ (.slice (some ⟨g1,0,none⟩) (row2.length+1) cap1)=v4 at *;go_wp2;go_roundw
      case rel=>exact⟨j+1,_,_,by omega,by go_num,by rw [HFN3.o],by rw [HFN3.o];exact HAP.o⟩
      case measure=>exact zq
   .have hjl:l.length=j:=by omega
    refine zm87 ?_;intro HT;have HEQ:=qh (P.b7v (o,t) l);have HRL:=qh (show (P.a1m (o,t) (l.take j)).1.length<=2^21 by have h:=HFL.o;have h2:(P.a1m (o,t) (l.take j)).2.toNat<=1:=Bool.toNat_le _;omega);rw [<-HT.o]at HEQ;generalize P.a1m (o,t) (l.take j)=s at *;obtain⟨row,put⟩:=s;simp only at HP HFL HRL HEQ;clear hp HFL
    cases put
    .have HRES:Hq (row++[(o,t)]=P.putF (o,t) false (l.take j)):=⟨HEQ.o⟩;clear HEQ b0 b1 b2 b3 b4 f2 f3;have b0:=HP.o.1.1;obtain⟨b0,b1,b2,b3,b4,f2,f3⟩:=HP.o.1;obtain⟨k0,k1,k2⟩:=HP.o.2.1;have HY:=qh (HP.o.2.2.1 rfl);have HAC:=qh HP.o.2.2.2.1;have HVZ:=qh HP.o.size;obtain⟨uad,ucap,rfl⟩:=HP.o.2.2.2.1.form;obtain⟨yd,yc,rfl,_,_⟩:=HP.o.2.2.1 rfl;have hba:=(Below.refl wr.heap.size wr).alloc lZ (.cells #[.slice yd o.length yc,.string (S t)] 119);have HOW:=qh (HAC.o.keep a0e hba).owns;have BX:=qh (HP.o.1.step (hba.mono (by have:=HF.o.b1;have:=HVZ.o;omega)));clear hba
     go_wp2_with (at_builtin;refine wpList_append_lies _ rfl _ _ 24 rfl B1 119 i0 (.agg #[.slice none 0 0,.string ⟨#[]⟩]) 2 40 underlying24 hi hz0 hz1 hz2 rfl dZ (.slice uad row.length ucap) row.length xs rfl HOW.o ⟨wr.heap.size,0,none⟩ 1 1 [.slice yd o.length yc,.string (S t)] rfl rfl ?_ ?_ (Nat.zero_lt_one) ?_ ?_ ?_ _ rfl ?_)
     all_goals first|exact⟨rfl,rfl⟩|(intro y hy;simp only [List.mem_cons,List.not_mem_nil,or_false]at hy;rcases hy with rfl|rfl<;>rfl)|(have:=HRL.o;unfold maxLen;omega)|(have:=HRL.o;omega)|(have h1:=HVZ.o;simp;omega)|(intro i y hy;rcases i with _|_|i;(injection hy with hy;subst hy;rw [add0];go_simp);(injection hy with hy;subst hy;rw [add0];go_simp);cases hy)|skip
     intro g1 cap1 v3 hown hgr hat hlt3;have hb3:Below B1 (wr.alloc (.cells #[.slice yd o.length yc,.string (S t)] 119)) v3:=bZ.grown hgr (by have h1:=HVZ.o;simp;omega) (λk hk=>(World.ownsRow.lt HOW.o k hk).1);obtain⟨_,_,_,d3,d4,e2,e3⟩:=BX.o.step (hb3.mono HF.o.b1);have HAP:=qh (HP.o.app (put':=true) (a:=(o,t)) (F':=F) (v1:=wr) HF.o bZ (λb hb=>⟨.inr ⟨⟨rfl,hb⟩,λh=>by cases h.1⟩,by have:=(HF.o.f b hb).2.1;have:=HVZ.o;omega⟩) (λ_=>rfl) (b0i HY.o) rfl (bZ.alloc lZ _) hown hgr (by simpa using hat));clear hown hgr hat hlt3 hb3 HOW BX HY HAC k0 k1 k2 b0 b1 b2 b3 b4 f2 f3;go_wp2;refine bodyPost_ret (v:=.agg #[.slice (some ⟨g1,0,none⟩) (row.length+1) cap1]) (by simp [results,results188,go_sem,d3]) rfl ⟨_,rfl,?_,⟨B1,xs++[.slice yd o.length yc,.string (S t)],by have:=HF.o.b1;omega,?_⟩,(HAP.o.done HF.o _ (by have:=HRL.o;simp;omega)).2⟩
     .have hr:=(HAP.o.done HF.o (.slice (some ⟨g1,0,none⟩) (row.length+1) cap1) (by have:=HRL.o;simp;omega)).1;rw [HRES.o,HT.o]at hr;exact hr
     .have hr:=HAP.o.whole HF.o (.slice (some ⟨g1,0,none⟩) (row.length+1) cap1);rw [HRES.o,HT.o]at hr;exact hr
    .have HRES:Hq (row=P.putF (o,t) false (l.take j)):=⟨HEQ.o⟩;clear HEQ b1 b2;obtain⟨uad,ucap,rfl⟩:=HP.o.2.2.2.1.form;go_wp2;refine bodyPost_ret (v:=.agg #[.slice uad row.length ucap]) (by simp [results,results188,go_sem,b3]) rfl ⟨_,rfl,?_,⟨B1,xs,by have:=HF.o.b1;omega,?_⟩,(HP.o.done HF.o _ (by have:=HRL.o;omega)).2⟩
     .rw [<-HT.o,<-HRES.o];exact (HP.o.done HF.o _ (by have:=HRL.o;omega)).1
     .rw [<-HT.o,<-HRES.o];exact HP.o.whole HF.o _
theorem l6Put (dv x:Value) (l:P.Dic) (o:List Int) (t:Str) (w:World) (hu:EntR w dv l) (ho:IntR w x o) (hl:l.length<=2^20) (hle:∀e∈l,e.1.length<=2^20) (hol:o.length<=2^20) :
 Cz 188 #[.agg #[dv],.agg #[x,.string (S t)]] w (b6w (P.putF (o,t) false l) w):=
 (e0a dv x l o t w hu ho hl hle hol).mono λ_ _ ⟨u,h1,h2,_,h3⟩=>⟨u,h1,h2,h3⟩
end Go.Proofs.YtggfdnopminemaaGreatDoor
