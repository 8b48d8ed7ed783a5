/- Walks: the reference's. -/
import Derived.Test.YtggfdnopminemaaGreatDoorPut2
set_option linter.all false
namespace Go.Proofs.YtggfdnopminemaaGreatDoor
open Go.Proofs.Tryz
open Go Go.RowKit
set_option maxHeartbeats 8000000
set_option maxRecDepth 100000
variable {F X:Blk} {o:List Int} {B b g n:Nat} {l:P.Dic} {t:Str} {u:Go.Value} {v v' w:Go.World}
def PAhead (w:World) (dv x:Value) (o:List Int) (t:Str) (C:Nat) (y:Value) (F:Blk) (v:World):Prop:=
 PBx w.heap.size dv x t (.slice none 0 0) v/\OBx C y t v/\Ints v F y o/\PFix w.heap.size C v.heap.size F/\Bl w v
theorem b3t (h:Below B w v) (hg:B<=g) (i j:Nat) (x y:Value):Below B w ((v.setCell ⟨g,i,none⟩ x).setCell ⟨g,j,none⟩ y):=(h.setCell (p:=⟨g,i,none⟩) hg x).setCell (p:=⟨g,j,none⟩) hg y
def d9h (l:P.Dic) (w:World) (e:Ending) (w':World):Prop:=∃u,e=.returned (.agg #[u])/\Ents w' (Bet w.heap.size w'.heap.size) u l/\(∃B xs,w.heap.size<=B/\w'.ownsRow B 119 2 u l.length xs)/\Bl w w'
theorem PInv.whole {dv x y:Value} {C B1:Nat} {put:Bool} {row:P.Dic} {xs:List Value} (h:PInv w dv x o t C y F B1 put row u xs v) (hf:PFix w.heap.size C B1 F) (z:Value):(v.setCell ⟨w.heap.size+2,0,none⟩ z).ownsRow B1 119 2 u row.length xs:=by
 have h1:=hf.b1;refine a1f h.2.2.2.1.owns ((Chg.refl (λb=>b=w.heap.size+2) v).setCell (p:=⟨w.heap.size+2,0,none⟩) rfl z) λk hk e=>?_;have:=(World.ownsRow.lt h.2.2.2.1.owns k hk).1;omega
theorem e1y (dv x:Value) (l:P.Dic) (o:List Int) (t:Str) (w:World) (hu:EntR w dv l) (ho:IntR w x o) (hl:l.length<=2^20) (hle:∀e∈l,e.1.length<=2^20) (hol:o.length<=2^20) :
 Cz 188 #[.agg #[dv],.agg #[x,.string (S t)]] w (d9h (P.putF (o,t) false l) w):=by
 obtain⟨i0,hi,hz0,hz1,hz2⟩:=info_parts a5i
 have hb0:Bl w ((((w.alloc (.cells #[dv] 26)).alloc (.cells #[x,.string (S t)] 119)).alloc (.cells #[.slice none 0 0] 26)).alloc (.cells #[.slice none 0 0] 26)):=((((Below.refl w.heap.size w).alloc lZ _).alloc sZ _).alloc (by simp;omega) _).alloc (by simp;omega) _
 have HU:=qh hu;have HO:=qh (ho.below hb0);have HOW0:=qh ho
 have HBX:=qh (show PBx w.heap.size dv x t (.slice none 0 0) ((((w.alloc (.cells #[dv] 26)).alloc (.cells #[x,.string (S t)] 119)).alloc (.cells #[.slice none 0 0] 26)).alloc (.cells #[.slice none 0 0] 26)) by refine⟨?_,?_,?_,?_,?_,?_,?_⟩<;>go_simp)
 have HB0:=qh hb0;clear hb0
 have HZ4:=qh (show ((((w.alloc (.cells #[dv] 26)).alloc (.cells #[x,.string (S t)] 119)).alloc (.cells #[.slice none 0 0] 26)).alloc (.cells #[.slice none 0 0] 26)).heap.size=w.heap.size+4 by simp)
 have HLE:=qh hle;clear hle
 obtain⟨dad,dcap,rfl,_,_⟩:=hu
 obtain⟨od,oc,rfl,_,_⟩:=ho
 have HOD:=qh (HO.o.below bZ.drew)
 have HBXD:=qh (HBX.o.step bZ.drew)
 have HBD:=qh (HB0.o.trans bZ.drew)
 have HS:=qh (show KR3 w.heap.size (.slice od o.length oc) t ((((w.alloc (.cells #[.slice dad l.length dcap] 26)).alloc (.cells #[.slice od o.length oc,.string (S t)] 119)).alloc (.cells #[.slice none 0 0] 26)).alloc (.cells #[.slice none 0 0] 26)).drew from⟨HBXD.o.2.1,HBXD.o.2.2.1⟩)
 go_enter func188,ntmps188
 go_upto_region 3 with fail
 go_cut [7] (λp wx=>∃(C:Nat) (y:Value) (F:Blk),p=.pointer (some ⟨C,0,none⟩)/\PAhead w (.slice dad l.length dcap) (.slice od o.length oc) o t C y F wx)
 case first=>
  have zd:((((w.alloc (.cells #[.slice dad l.length dcap] 26)).alloc (.cells #[.slice od o.length oc,.string (S t)] 119)).alloc (.cells #[.slice none 0 0] 26)).alloc (.cells #[.slice none 0 0] 26)).drew.heap.size=w.heap.size+4:=HZ4.o;have ZD:=qh zd;clear zd;refine wp_region_held_drew (S:=KR3 w.heap.size (.slice od o.length oc) t) kZ HS.o (λhS0=>?_);refine tk3 0 hS0 ?_;refine tk3 1 hS0 ?_;refine tk3 3 hS0 ?_;refine tk3 4 hS0 ?_;refine wpAnyH_ready (rs:=[2,6]) kZ sZ ?_;refine AllReadyH.cons rfl (λK hK=>?_) (AllReadyH.cons rfl (λK hK=>?_) AllReadyH.nil)
  .skip;go_simp;refine (d2n _ o _ HOD.o oZ).mono ?_;rintro e v1 ⟨x1,rfl,hI,hb⟩;rw [ZD.o]at hI;have hz1':w.heap.size+4<=v1.heap.size:=by have:=hb.size;rw [ZD.o]at this;exact this
   unfold Bl at hb;rw [ZD.o]at hb;refine hK.out _ _ (hS0.step hb) (λhS1=>?_);clear hK K;have HBX1:=qh (HBXD.o.step hb);have HB1:=qh (HBD.o.trans (hb.mono oZ));have HI:=qh hI;obtain⟨xd,xc,rfl,_,_⟩:=hI;clear hb;refine zm0 ?_;refine tk3 5 hS1 ?_;refine trd 6 λK hK=>?_;go_simp;refine hK.out _ _ (hS1.step (bZ.alloc hz1' _)) (λhS2=>?_);clear hK K;refine zm0 ?_;refine trd 7 λK hK=>?_;go_simp;refine hK.out _ _ (hS1.step (bZ.alloc hz1' _)) (λhS3=>?_);clear hK K;refine zm0 ?_;refine wpAnyH_done kZ ?_ _;go_wp2_with fail;go_meet;refine⟨v1.heap.size,.slice xd o.length xc,Bet (w.heap.size+4) v1.heap.size,rfl,?_,⟨by go_simp,by go_simp,by simp⟩,?_,⟨by simp;omega,hz1',by simp,λb hb=>⟨hb.1,by have:=hb.2;simp;omega,by have:=hb.2;omega⟩⟩,?_⟩
   .exact HBX1.o.step (bZ.alloc hz1' _)
   .exact HI.o.a0b a1l ((Chg.refl (λ_=>False) v1).alloc _) (λb hb e=>e)
   .exact HB1.o.alloc oZ _
  .skip;go_simp;have hba:=(Below.refl ((((w.alloc (.cells #[.slice dad l.length dcap] 26)).alloc (.cells #[.slice od o.length oc,.string (S t)] 119)).alloc (.cells #[.slice none 0 0] 26)).alloc (.cells #[.slice none 0 0] 26)).drew.heap.size ((((w.alloc (.cells #[.slice dad l.length dcap] 26)).alloc (.cells #[.slice od o.length oc,.string (S t)] 119)).alloc (.cells #[.slice none 0 0] 26)).alloc (.cells #[.slice none 0 0] 26)).drew).alloc lZ (.cells #[.slice none 0 0,.string (S [])] 119);refine hK.out _ _ (hS0.step (hba.mono (by rw [ZD.o];exact Nat.le_refl _))) (λhS1=>?_);clear hK K;have HOD2:=qh (HOD.o.below hba);have HBXD2:=qh (HBXD.o.step (hba.mono (by rw [ZD.o];exact Nat.le_refl _)));have HBD2:=qh (HBD.o.trans (hba.mono (by rw [ZD.o];omega)));have ZD2:=qh (show (((((w.alloc (.cells #[.slice dad l.length dcap] 26)).alloc (.cells #[.slice od o.length oc,.string (S t)] 119)).alloc (.cells #[.slice none 0 0] 26)).alloc (.cells #[.slice none 0 0] 26)).drew.alloc (.cells #[.slice none 0 0,.string (S [])] 119)).heap.size=w.heap.size+5 by simp);have c0:(((((w.alloc (.cells #[.slice dad l.length dcap] 26)).alloc (.cells #[.slice od o.length oc,.string (S t)] 119)).alloc (.cells #[.slice none 0 0] 26)).alloc (.cells #[.slice none 0 0] 26)).drew.alloc (.cells #[.slice none 0 0,.string (S [])] 119)).cell? ⟨w.heap.size+4,0,none⟩=some (.slice none 0 0):=by rw [<-ZD.o];go_simp
   have c1:(((((w.alloc (.cells #[.slice dad l.length dcap] 26)).alloc (.cells #[.slice od o.length oc,.string (S t)] 119)).alloc (.cells #[.slice none 0 0] 26)).alloc (.cells #[.slice none 0 0] 26)).drew.alloc (.cells #[.slice none 0 0,.string (S [])] 119)).cell? ⟨w.heap.size+4,1,none⟩=some (.string (S [])):=by rw [<-ZD.o];go_simp
   have f0:(((((w.alloc (.cells #[.slice dad l.length dcap] 26)).alloc (.cells #[.slice od o.length oc,.string (S t)] 119)).alloc (.cells #[.slice none 0 0] 26)).alloc (.cells #[.slice none 0 0] 26)).drew.alloc (.cells #[.slice none 0 0,.string (S [])] 119)).frozen? ⟨w.heap.size+4,0,none⟩=false:=by rw [<-ZD.o];go_simp
   have f1:(((((w.alloc (.cells #[.slice dad l.length dcap] 26)).alloc (.cells #[.slice od o.length oc,.string (S t)] 119)).alloc (.cells #[.slice none 0 0] 26)).alloc (.cells #[.slice none 0 0] 26)).drew.alloc (.cells #[.slice none 0 0,.string (S [])] 119)).frozen? ⟨w.heap.size+4,1,none⟩=false:=by rw [<-ZD.o];go_simp
   clear hba;refine zm0 ?_;refine trd 2 λK hK=>?_;go_simp;refine (d2n _ o _ HOD2.o oZ).mono ?_;rintro e v1 ⟨x1,rfl,hI,hb⟩;rw [ZD2.o]at hI;have hz1':w.heap.size+5<=v1.heap.size:=by have:=hb.size;rw [ZD2.o]at this;exact this
   unfold Bl at hb;rw [ZD2.o]at hb;refine hK.out _ _ (hS1.step (hb.mono oZ)) (λhS2=>?_);clear hK K;have HBX1:=qh (HBXD2.o.step (hb.mono oZ));have HB1:=qh (HBD2.o.trans (hb.mono oZ));have d0:=(hb.cell (p:=⟨w.heap.size+4,0,none⟩) (by show w.heap.size+4<w.heap.size+5;omega)).trans c0;have d1:=(hb.cell (p:=⟨w.heap.size+4,1,none⟩) (by show w.heap.size+4<w.heap.size+5;omega)).trans c1;have e0:=(hb.frozen (p:=⟨w.heap.size+4,0,none⟩) (by show w.heap.size+4<w.heap.size+5;omega)).trans f0;have e1:=(hb.frozen (p:=⟨w.heap.size+4,1,none⟩) (by show w.heap.size+4<w.heap.size+5;omega)).trans f1;clear c0 c1 f0 f1;have HI:=qh hI;obtain⟨xd,xc,rfl,_,_⟩:=hI;clear hb;refine zm0 ?_;refine tk3 5 hS2 ?_;refine trd 7 λK hK=>?_;go_simp;refine hK.out _ _ (hS2.step (b3t bZ lZ _ _ _ _)) (λhS3=>?_);clear hK K;refine zm0 ?_;refine wpAnyH_done kZ ?_ _;go_wp2_with fail;go_meet;refine⟨w.heap.size+4,.slice xd o.length xc,Bet (w.heap.size+5) v1.heap.size,rfl,?_,⟨by go_simp,by go_simp,by simp;omega⟩,?_,⟨by simp;omega,by omega,by simp;omega,λb hb=>⟨by have:=hb.1;omega,by have:=hb.2;simp;omega,by have:=hb.1;omega⟩⟩,?_⟩
   .exact HBX1.o.step (b3t bZ lZ _ _ _ _)
   .exact HI.o.a0b a1l (((Chg.refl (λb=>b=w.heap.size+4) v1).setCell (by show w.heap.size+4=_;rfl) _).setCell (by show w.heap.size+4=_;rfl) _) (λb hb e=>by have:=hb.1;omega)
   .exact b3t HB1.o (show w.heap.size<=w.heap.size+4 by omega) _ _ _ _
 case rest=>
  clear HO HBX HB0 HZ4 HOD HBXD HBD HS;obtain⟨C,y,F,rfl,hbx,hob,hown,hfix,hbw⟩:=hcut;have HF:=qh hfix;obtain⟨B1,hB1⟩:∃B1,wc.heap.size=B1:=⟨_,rfl⟩;rw [hB1]at HF
  have HP0:=qh (show PInv w (.slice dad l.length dcap) (.slice od o.length oc) o t C y F B1 false [] (.slice none 0 0) [] wc from
   ⟨hbx,hob,λ_=>hown,AccR.nil (World.ownsRow_nil _ _ _ _) oZ (λb hb=>(HF.o.f b hb.2).2.1),hbw⟩)
  clear hfix hbx hob hown hbw hB1
  go_wp2_with fail
  go_loopw [6,8] (λp i wr=>∃(j:Nat) (u:Value) (xs:List Value),j<=l.length/\i=.int .i64 j/\p=.bool (P.a1p (o,t) (l.take j)).2/\PInv w (.slice dad l.length dcap) (.slice od o.length oc) o t C y F B1 (P.a1p (o,t) (l.take j)).2 (P.a1p (o,t) (l.take j)).1 u xs wr) (λ_ i _=>l.length-(intOf i).toNat)
  case atStart=>exact⟨0,_,_,Nat.zero_le _,rfl,rfl,HP0.o⟩
  case round=>
   clear HP0;obtain⟨j,u,xs,hj,rfl,rfl,hp⟩:=hrel;have HP:=qh hp;obtain⟨b0,b1,b2,b3,b4,f2,f3⟩:=hp.1;have HPZ:=qh hp.size;have hfl:=P.b7o (o,t) (l.take j);have HFL:=qh (show (P.a1p (o,t) (l.take j)).1.length<=j+(P.a1p (o,t) (l.take j)).2.toNat by have h:(l.take j).length=j:=(by rw [List.length_take];omega);rw [h]at hfl;exact hfl);clear hfl
   by_cases hlt:j<l.length
   .obtain⟨g,q,hga,hgs,xe,c0,c1,hx⟩:=HU.o.at j hlt;have hgw:g<w.heap.size:=hgs;have HEN:=qh (a0g l j hlt);have hll:=HLE.o _ (List.getElem_mem hlt);have HX:=qh (hx.below hp.2.2.2.2);have HOR:=qh (HOW0.o.below hp.2.2.2.2);have cc0:=(hp.2.2.2.2.cell (p:=⟨g,_,none⟩) hgs).trans c0;have cc1:=(hp.2.2.2.2.cell (p:=⟨g,_,none⟩) hgs).trans c1;have HS:Hq (KR7 w.heap.size (.slice dad l.length dcap) (.slice od o.length oc) g (q+j*2) xe wr.drew):=⟨KR7.step ⟨b0,b1,cc0,hgw⟩ bZ.drew⟩;have HCC:=qh (And.intro cc0 cc1);have HCW:=qh (And.intro c0 c1);have HXO:=qh hx;have HFN:=qh (show P.a1p (o,t) (l.take (j+1))=P.a1w (o,t) (P.a1p (o,t) (l.take j)) l[j] by rw [a0g l j hlt,P.c2r]);obtain⟨xd,xc,rfl,_,_⟩:=hx;subst hga;generalize l[j]=en at *;obtain⟨eo,et⟩:=en;simp only at hll HX HS HCC HCW HXO;generalize P.a1p (o,t) (l.take j)=s at *;obtain⟨row,put⟩:=s;simp only at HP HFL;have i1:(j:Int)<(l.length:Int):=by omega
    have HRL:=qh (show row.length<=2^21 by have h:=HFL.o;have h2:put.toNat<=1:=Bool.toNat_le put;omega);clear hp cc0 cc1 c0 c1 b1 b2 b3 b4 f2 f3 HFL;go_upto_region 7 with fail;refine wp_region_held_drew (S:=KR7 w.heap.size (.slice (some ⟨g,q,none⟩) l.length dcap) (.slice od o.length oc) g (q+j*2) (.slice xd eo.length xc)) kZ HS.o (λhS0=>?_);refine zm34 ?_;refine tk0 3 (v:=.pointer (some ⟨g,q+j*2,none⟩)) hS0 ?_;refine tk0 4 (v:=.pointer (some ⟨g,q+j*2,none⟩)) hS0 ?_;refine tk0 5 hS0 ?_;refine tk0 6 hS0 ?_;refine tk0 7 hS0 ?_;refine trd 8 λK hK=>?_;have HXD:=qh (HX.o.below bZ.drew);have HORD:=qh (HOR.o.below bZ.drew);go_simp;refine (b7e _ _ eo o _ HXD.o HORD.o).mono ?_;rintro e v1 ⟨rfl,hb1⟩;have HB1:Hq (Bl wr v1):=⟨(Below.refl wr.heap.size wr).drew.trans hb1⟩;refine hK.out _ _ (hS0.step (hb1.mono (by have h1:=HPZ.o;have h2:=HF.o.b1;show w.heap.size+4<=wr.heap.size;omega))) (λhS1=>?_);clear hK K hb1;refine zm0 ?_;refine tk0 9 hS1 ?_;refine wpAnyH_done kZ ?_ _;have HP1:=qh (HP.o.below HF.o HB1.o);have HX1:=qh (HX.o.below HB1.o);have hgv:g<wr.heap.size:=by have h1:=HPZ.o;have h2:=HF.o.b1;omega
    have HC1:=qh (And.intro ((HB1.o.cell (p:=⟨g,_,none⟩) hgv).trans HCC.o.1) ((HB1.o.cell (p:=⟨g,_,none⟩) hgv).trans HCC.o.2));clear hS0 hS1 HS HXD HORD HX HP HPZ HB1 HCC HOR hgv;go_upto_region 8 with fail;go_cut [38] (λp wx=>p=.bool (decide (0<=P.cmp eo o)&&!put)/\wx=v1)
    case first=>
     by_cases h0:0<=P.cmp eo o
     .go_wp2_with fail
      go_meet;exact⟨by rw [decide_eq_true h0,Bool.true_and],rfl⟩
     .go_wp2_with fail
      go_meet;exact⟨by rw [decide_eq_false oZ];rfl,rfl⟩
    obtain⟨rfl,rfl⟩:=hcut
    go_upto_if 38 with fail
    go_cut [6] (λp wx=>∃(u:Value) (xs:List Value),p=.bool (P.a1w (o,t) (row,put) (eo,et)).2/\PInv w (.slice (some ⟨g,q,none⟩) l.length dcap) (.slice od o.length oc) o t C y F B1 (P.a1w (o,t) (row,put) (eo,et)).2 (if decide (0<=P.cmp eo o)&&!put then row++[(o,t)] else row) u xs wx/\Bl w wx)
    case first=>
     cases hcd:decide (0<=P.cmp eo o)&&!put
     .have HCD:=qh hcd
      have HST:=qh (show (P.a1w (o,t) (row,put) (eo,et)).2=put by
       unfold P.a1w
       cases put
       .simpa using hcd
       .simp)
      clear hcd;go_wp2;go_meet;refine⟨u,xs,by rw [HST.o],?_,HP1.o.2.2.2.2⟩;rw [HST.o,if_neg (by rw [HCD.o];decide)];exact HP1.o
     .have h0:0<=P.cmp eo o:=by simp at hcd;exact hcd.1
      obtain rfl:put=false:=by simp at hcd;exact hcd.2
      .have HST:=qh (show (P.a1w (o,t) (row,false) (eo,et)).2=true by unfold P.a1w;simp [h0]);have H0:=qh h0;clear h0 hcd;obtain⟨b0,b1,b2,b3,b4,f2,f3⟩:=HP1.o.1;obtain⟨k0,k1,k2⟩:=HP1.o.2.1;have HY:=qh (HP1.o.2.2.1 rfl);have HAC:=qh HP1.o.2.2.2.1;have HVZ:=qh HP1.o.size;obtain⟨uad,ucap,rfl⟩:=HP1.o.2.2.2.1.form;obtain⟨yd,yc,rfl,_,_⟩:=HP1.o.2.2.1 rfl;have hba:=(Below.refl wc.heap.size wc).alloc lZ (.cells #[.slice yd o.length yc,.string (S t)] 119);have HOW:=qh (HAC.o.keep a0f hba).owns;have BX:=qh (HP1.o.1.step (hba.mono (by have:=HF.o.b1;have:=HVZ.o;omega)));clear hba
       go_wp2_with (at_builtin;refine wpList_append_lies _ rfl _ _ 24 rfl B1 119 i0 (.agg #[.slice none 0 0,.string ⟨#[]⟩]) 2 40 underlying24 hi hz0 hz1 hz2 rfl dZ (.slice uad row.length ucap) row.length xs rfl HOW.o ⟨wc.heap.size,0,none⟩ 1 1 [.slice yd o.length yc,.string (S t)] rfl rfl ?_ ?_ (Nat.zero_lt_one) ?_ ?_ ?_ _ rfl ?_)
       all_goals first|exact⟨rfl,rfl⟩|(intro y hy;simp only [List.mem_cons,List.not_mem_nil,or_false]at hy;rcases hy with rfl|rfl<;>rfl)|(have:=HRL.o;unfold maxLen;omega)|(have:=HRL.o;omega)|(have h1:=HVZ.o;simp;omega)|(intro i y hy;rcases i with _|_|i;(injection hy with hy;subst hy;rw [add0];go_simp);(injection hy with hy;subst hy;rw [add0];go_simp);cases hy)|skip
       intro g1 cap1 v3 hown hgr hat hlt3;have hb3:Below B1 (wc.alloc (.cells #[.slice yd o.length yc,.string (S t)] 119)) v3:=bZ.grown hgr (by have h1:=HVZ.o;simp;omega) (λk hk=>(World.ownsRow.lt HOW.o k hk).1);obtain⟨_,_,_,d3,d4,e2,e3⟩:=BX.o.step (hb3.mono HF.o.b1);have HAP:=qh (HP1.o.app (put':=true) (a:=(o,t)) (F':=F) (v1:=wc) HF.o bZ (λb hb=>⟨.inr ⟨⟨rfl,hb⟩,λh=>by cases h.1⟩,by have:=(HF.o.f b hb).2.1;have:=HVZ.o;omega⟩) (λ_=>rfl) (b1d HY.o) rfl (bZ.alloc lZ _) hown hgr (by simpa using hat));clear hown hgr hat hlt3 hb3 HOW BX HY HAC k0 k1 k2 b0 b1 b2 b3 b4 f2 f3;go_wp2;go_meet;refine⟨.slice (some ⟨g1,0,none⟩) (row.length+1) cap1,xs++[.slice yd o.length yc,.string (S t)],by rw [HST.o],?_,HAP.o.2.2.2.2⟩;rw [HST.o,if_pos (by simp [H0.o])];exact HAP.o
    case rest=>
     clear HP1;obtain⟨u,xs,rfl,hp,hbw⟩:=hcut;have HBW:=qh hbw;clear hbw;have HP2:=qh hp;have HS1:Hq (P.a1w (o,t) (row,put) (eo,et)=((if decide (0<=P.cmp eo o)&&!put then row++[(o,t)] else row)++(if decide (P.cmp eo o=0) then [] else [(eo,et)]),(P.a1w (o,t) (row,put) (eo,et)).2)):=⟨rfl⟩;have HRW:=qh (show (if decide (0<=P.cmp eo o)&&!put then row++[(o,t)] else row).length<=2^22 by have:=HRL.o;split<;>simp<;>omega);clear HRL;generalize (if decide (0<=P.cmp eo o)&&!put then row++[(o,t)] else row)=row2 at *;have hsn:∃put2,(P.a1w (o,t) (row,put) (eo,et)).2=put2:=⟨_,rfl⟩;obtain⟨put2,hsn⟩:=hsn;rw [hsn]at hp⊢;have HP:Hq (PInv w (.slice (some ⟨g,q,none⟩) l.length dcap) (.slice od o.length oc) o t C y F B1 put2 row2 u xs wc):=⟨hp⟩;have HFN2:=qh (show P.a1p (o,t) (l.take (j+1))=(row2++(if decide (P.cmp eo o=0) then [] else [(eo,et)]),put2) by rw [HFN.o,HS1.o,hsn]);clear hsn HP2 HS1 HFN hp
     by_cases h1:P.cmp eo o=0
     .have HFN3:=qh (show P.a1p (o,t) (l.take (j+1))=(row2,put2) by rw [HFN2.o,h1];simp);clear HFN2;go_wp2
      go_roundw
      case rel=>exact⟨j+1,u,xs,by omega,by go_num,by rw [HFN3.o],by rw [HFN3.o];exact HP.o⟩
      case measure=>exact zq
     .have HFN3:=qh (show P.a1p (o,t) (l.take (j+1))=(row2++[(eo,et)],put2) by rw [HFN2.o];simp [h1]);clear HFN2;have HPZ:=qh HP.o.size;obtain⟨uad,ucap,rfl⟩:=HP.o.2.2.2.1.form;obtain⟨b0,b1,b2,b3,b4,f2,f3⟩:=HP.o.1;have hgz:g<wc.heap.size:=by have h1:=HPZ.o;have h2:=HF.o.b1;omega
      have cc0:=(HBW.o.cell (p:=⟨g,q+j*2,none⟩) hgw).trans HCW.o.1;have cc1:=(HBW.o.cell (p:=⟨g,q+j*2+1,none⟩) hgw).trans HCW.o.2;have HX:=qh (HXO.o.below HBW.o)
      have HS:=qh (show KRP w.heap.size (.slice (some ⟨g,q,none⟩) l.length dcap) (.slice uad row2.length ucap) g (q+j*2) (.slice xd eo.length xc) et wc.drew from
       KRP.step ⟨b0,b4,cc0,cc1,f3,hgw⟩ bZ.drew)
      clear cc0 cc1 b1 b2 b3 f2;go_upto_region 12 with fail;refine Left.region [19] (S:=KRP w.heap.size (.slice (some ⟨g,q,none⟩) l.length dcap) (.slice uad row2.length ucap) g (q+j*2) (.slice xd eo.length xc) et) kZ HS.o (λhS0=>?_);refine lk4 0 hS0 ?_;refine lk4 1 hS0 ?_;refine lk4 2 hS0 ?_;refine lk4 3 hS0 ?_;refine lk4 4 hS0 ?_;refine lk4 5 (v:=.pointer (some ⟨g,q+j*2,none⟩)) hS0 ?_;refine lk4 6 (v:=.pointer (some ⟨g,q+j*2,none⟩)) hS0 ?_;refine lk4 7 hS0 ?_;refine lk4 9 hS0 ?_;refine lk4 10 hS0 ?_;refine lk4 11 hS0 ?_;refine lk4 12 (v:=.pointer (some ⟨g,q+j*2,none⟩)) hS0 ?_;refine lk4 13 (v:=.pointer (some ⟨g,q+j*2+1,none⟩)) hS0 ?_;refine lk4 14 hS0 ?_;refine lrd 8 λK hK=>?_;have HXD:=qh (HX.o.below bZ.drew);have HB4:=qh (show w.heap.size+4<=wc.heap.size by have h1:=HPZ.o;have h2:=HF.o.b1;omega);go_simp;refine (d2n _ eo _ HXD.o oZ).mono ?_;rintro e v1 ⟨x1,rfl,hI,hb1⟩;have HB1:Hq (Bl wc v1):=⟨(Below.refl wc.heap.size wc).drew.trans hb1⟩;have HI:Hq (Ints v1 (Bet wc.heap.size v1.heap.size) x1 eo):=⟨hI⟩;have HZ1:Hq (wc.heap.size<=v1.heap.size):=⟨hb1.size⟩;obtain⟨x1d,x1c,rfl,_,_⟩:=hI;refine a1r hK dZ (hS0.step (hb1.mono HB4.o)) (λhS1=>?_);clear hK K hb1;refine zm0 ?_;refine lk4 15 hS1 ?_;refine lrd 16 λK hK=>?_;go_simp;refine a1r hK dZ (hS1.step (bZ.alloc (Nat.le_trans HB4.o HZ1.o) _)) (λhS2=>?_);clear hK K;refine zm0 ?_;refine lrd 17 λK hK=>?_;have HA2:=qh ((HP.o.2.2.2.1.keep a0f HB1.o).keep a0f ((Below.refl v1.heap.size v1).alloc lZ (.cells #[.slice x1d eo.length x1c,.string (S et)] 119)));refine step_append_lies _ rfl _ _ 24 rfl B1 119 i0 (.agg #[.slice none 0 0,.string ⟨#[]⟩]) 2 40 underlying24 hi hz0 hz1 hz2 rfl dZ (.slice uad row2.length ucap) row2.length xs rfl HA2.o.owns ⟨v1.heap.size,0,none⟩ 1 1 [.slice x1d eo.length x1c,.string (S et)] rfl rfl ?_ ?_ dZ (by have:=HRW.o;unfold maxLen;omega) (by have:=HRW.o;omega) ?_ _ rfl ?_
      .exact zq24
      .intro y hy;exact zq38
      .have h1:=HZ1.o;have h2:=HPZ.o;simp;omega
      intro g1 cap1 v3 hown hgr hat hlt3
      have hb3:Below B1 (v1.alloc (.cells #[.slice x1d eo.length x1c,.string (S et)] 119)) v3:=
       bZ.grown hgr (by have h1:=HZ1.o;have h2:=HPZ.o;simp;omega) (λk hk=>(World.ownsRow.lt HA2.o.owns k hk).1)
      have hS3:=hS2.step (hb3.mono HF.o.b1);have hsc:=hS3.2.1;have hsf:=hS3.2.2.2.2.1;have HAP:=qh (HP.o.app (put':=put2) (a:=(eo,et)) (F':=Bet wc.heap.size v1.heap.size) (v1:=v1) HF.o HB1.o (λb hb=>⟨.inl hb.1,hb.2⟩) (λh=>h) (b1d HI.o) rfl (bZ.alloc lZ _) hown hgr (by simpa using hat));refine a1r hK dZ hS3 (λhS4=>?_);clear hK K hown hgr hat hS2 hS1 HB1 HI HA2 HX HXD HXO HS hb3 HP;refine zm0 ?_;refine lk4 18 hS4 ?_;refine lrd 19 λK hK=>?_;go_simp;refine a2p hK dZ ?_;clear hK K hS0;refine zm0 ?_;refine Left.done kZ ?_ _;clear hsc hsf hS3 hS4;generalize v3.setCell ⟨w.heap.size+3,0,none⟩ (.slice (some ⟨g1,0,none⟩) (row2.length+1) cap1)=v4 at *;go_wp2;go_roundw
      case rel=>exact⟨j+1,_,_,by omega,by go_num,by rw [HFN3.o],by rw [HFN3.o];exact HAP.o⟩
      case measure=>exact zq
   .have hjl:l.length=j:=by omega
    refine zm90 ?_;intro HT;have HEQ:=qh (P.b9g (o,t) l);have HRL:=qh (show (P.a1p (o,t) (l.take j)).1.length<=2^21 by have h:=HFL.o;have h2:(P.a1p (o,t) (l.take j)).2.toNat<=1:=Bool.toNat_le _;omega);rw [<-HT.o]at HEQ;generalize P.a1p (o,t) (l.take j)=s at *;obtain⟨row,put⟩:=s;simp only at HP HFL HRL HEQ;clear hp HFL
    cases put
    .have HRES:Hq (row++[(o,t)]=P.putF (o,t) false (l.take j)):=⟨HEQ.o⟩;clear HEQ b0 b1 b2 b3 b4 f2 f3;have b0:=HP.o.1.1;obtain⟨b0,b1,b2,b3,b4,f2,f3⟩:=HP.o.1;obtain⟨k0,k1,k2⟩:=HP.o.2.1;have HY:=qh (HP.o.2.2.1 rfl);have HAC:=qh HP.o.2.2.2.1;have HVZ:=qh HP.o.size;obtain⟨uad,ucap,rfl⟩:=HP.o.2.2.2.1.form;obtain⟨yd,yc,rfl,_,_⟩:=HP.o.2.2.1 rfl;have hba:=(Below.refl wr.heap.size wr).alloc lZ (.cells #[.slice yd o.length yc,.string (S t)] 119);have HOW:=qh (HAC.o.keep a0f hba).owns;have BX:=qh (HP.o.1.step (hba.mono (by have:=HF.o.b1;have:=HVZ.o;omega)));clear hba
     go_wp2_with (at_builtin;refine wpList_append_lies _ rfl _ _ 24 rfl B1 119 i0 (.agg #[.slice none 0 0,.string ⟨#[]⟩]) 2 40 underlying24 hi hz0 hz1 hz2 rfl dZ (.slice uad row.length ucap) row.length xs rfl HOW.o ⟨wr.heap.size,0,none⟩ 1 1 [.slice yd o.length yc,.string (S t)] rfl rfl ?_ ?_ (Nat.zero_lt_one) ?_ ?_ ?_ _ rfl ?_)
     all_goals first|exact⟨rfl,rfl⟩|(intro y hy;simp only [List.mem_cons,List.not_mem_nil,or_false]at hy;rcases hy with rfl|rfl<;>rfl)|(have:=HRL.o;unfold maxLen;omega)|(have:=HRL.o;omega)|(have h1:=HVZ.o;simp;omega)|(intro i y hy;rcases i with _|_|i;(injection hy with hy;subst hy;rw [add0];go_simp);(injection hy with hy;subst hy;rw [add0];go_simp);cases hy)|skip
     intro g1 cap1 v3 hown hgr hat hlt3;have hb3:Below B1 (wr.alloc (.cells #[.slice yd o.length yc,.string (S t)] 119)) v3:=bZ.grown hgr (by have h1:=HVZ.o;simp;omega) (λk hk=>(World.ownsRow.lt HOW.o k hk).1);obtain⟨_,_,_,d3,d4,e2,e3⟩:=BX.o.step (hb3.mono HF.o.b1);have HAP:=qh (HP.o.app (put':=true) (a:=(o,t)) (F':=F) (v1:=wr) HF.o bZ (λb hb=>⟨.inr ⟨⟨rfl,hb⟩,λh=>by cases h.1⟩,by have:=(HF.o.f b hb).2.1;have:=HVZ.o;omega⟩) (λ_=>rfl) (b1d HY.o) rfl (bZ.alloc lZ _) hown hgr (by simpa using hat));clear hown hgr hat hlt3 hb3 HOW BX HY HAC k0 k1 k2 b0 b1 b2 b3 b4 f2 f3;go_wp2;refine bodyPost_ret (v:=.agg #[.slice (some ⟨g1,0,none⟩) (row.length+1) cap1]) (by simp [results,results188,go_sem,d3]) rfl ⟨_,rfl,?_,⟨B1,xs++[.slice yd o.length yc,.string (S t)],by have:=HF.o.b1;omega,?_⟩,(HAP.o.done HF.o _ (by have:=HRL.o;simp;omega)).2⟩
     .have hr:=(HAP.o.done HF.o (.slice (some ⟨g1,0,none⟩) (row.length+1) cap1) (by have:=HRL.o;simp;omega)).1;rw [HRES.o,HT.o]at hr;exact hr
     .have hr:=HAP.o.whole HF.o (.slice (some ⟨g1,0,none⟩) (row.length+1) cap1);rw [HRES.o,HT.o]at hr;exact hr
    .have HRES:Hq (row=P.putF (o,t) false (l.take j)):=⟨HEQ.o⟩;clear HEQ b1 b2;obtain⟨uad,ucap,rfl⟩:=HP.o.2.2.2.1.form;go_wp2;refine bodyPost_ret (v:=.agg #[.slice uad row.length ucap]) (by simp [results,results188,go_sem,b3]) rfl ⟨_,rfl,?_,⟨B1,xs,by have:=HF.o.b1;omega,?_⟩,(HP.o.done HF.o _ (by have:=HRL.o;omega)).2⟩
     .rw [<-HT.o,<-HRES.o];exact (HP.o.done HF.o _ (by have:=HRL.o;omega)).1
     .rw [<-HT.o,<-HRES.o];exact HP.o.whole HF.o _
theorem l6Put (dv x:Value) (l:P.Dic) (o:List Int) (t:Str) (w:World) (hu:EntR w dv l) (ho:IntR w x o) (hl:l.length<=2^20) (hle:∀e∈l,e.1.length<=2^20) (hol:o.length<=2^20) :
 Cz 188 #[.agg #[dv],.agg #[x,.string (S t)]] w (b8c (P.putF (o,t) false l) w):=
 (e1y dv x l o t w hu ho hl hle hol).mono λ_ _ ⟨u,h1,h2,_,h3⟩=>⟨u,h1,h2,h3⟩
structure a8p (l:P.Dic):Prop where
 len:l.length<=60
 outs:∀e∈l,e.1.length<=8
 texts:∀e∈l,e.2.length<=300
theorem a8p.small (h:a8p l):Small l:=⟨by have:=h.len;omega,λe he=>by have:=h.outs e he;omega,λe he=>by have:=h.texts e he;omega⟩
theorem e0m (e:P.Ent) (l:P.Dic):0<(P.putF e false l).length:=List.length_pos_of_mem ((P.a6g e l e).2 (.inl rfl))
theorem c0w {e x:P.Ent} (h:x∈P.putF e false l):x=e\/x∈l:=by
 rcases (P.a6g e l x).1 h with h|h
 .exact .inl h
 .exact .inr (P.b3v h)
def b3m (lo:Nat) (v:World) (u:Value) (n:Nat):Prop:=∃B xs,lo<=B/\v.ownsRow B 119 2 u n xs
theorem b3m.a0b {lo:Nat} (h:b3m lo v u n) (hc:Chg X v v') (hX:∀k,lo<=k->k<v.heap.size->¬X k):b3m lo v' u n:=by
 obtain⟨B,xs,h1,h2⟩:=h;exact⟨B,xs,h1,a1f h2 hc λk hk=>by have h3:=World.ownsRow.lt h2 k hk;exact hX k oZ h3.2⟩
def d9o (B C K:Nat) (w:World) (e:Ending) (w':World):Prop:=∃(l:P.Dic) (u:Value),e=.returned (.agg #[u])/\a8p l/\l.length<=9/\0<l.length/\Ents w' (Bet w.heap.size w'.heap.size) u l/\b3m w.heap.size w' u l.length/\a0e B C K w w'
def d5y (l:P.Dic):Prop:=(∀e∈l,e.1.length<=3)/\l.Pairwise P.lt
theorem d5y.put (h:d5y l) (ho:o.length<=3):d5y (P.putF (o,t) false l):=
 ⟨λe he=>(c0w he).elim (λe'=>by rw [e'];exact ho) (h.1 e),P.a7o _ _ h.2⟩
def d4b (B C K:Nat) (w:World) (e:Ending) (w':World):Prop:=∃(l:P.Dic) (u:Value),e=.returned (.agg #[u])/\a8p l/\d5y l/\l.length<=9/\0<l.length/\Ents w' (Bet w.heap.size w'.heap.size) u l/\b3m w.heap.size w' u l.length/\a0e B C K w w'
def DBx (b:Nat) (u:Value) (v:World):Prop:=v.cell? ⟨b,0,none⟩=some u/\v.frozen? ⟨b,0,none⟩=false/\b<v.heap.size
theorem DBx.a0b (h:DBx b u v) (hc:Chg X v v') (hX:¬X b):DBx b u v':=
 ⟨(hc.cell (p:=⟨b,0,none⟩) h.2.2 hX).trans h.1,(hc.frozen (p:=⟨b,0,none⟩) h.2.2 hX).trans h.2.1,Nat.lt_of_lt_of_le h.2.2 hc.size⟩
theorem DBx.below (h:DBx b u v) (hb:Bl v v'):DBx b u v':=h.a0b (Below.chg hb λ_=>False) λh=>h
theorem DBx.new (u:Value) (t:TypeId) (v:World):DBx v.heap.size u (v.alloc (.cells #[u] t)):=by
 refine⟨?_,?_,?_⟩<;>go_simp
theorem DBx.put {u':Value} (h:DBx b u v):DBx b u' (v.setCell ⟨b,0,none⟩ u'):=
 ⟨World.cell?_setCell_same _ _ _ h.1,by simpa using h.2.1,by simpa [World.setCell] using h.2.2⟩
def DRun (B C K:Nat) (w v:World) (l:P.Dic) (u:Value):Prop:=
 (∃a c,u=.slice a l.length c)/\(a8p l/\d5y l)/\Ents v (Bet (w.heap.size+2) v.heap.size) u l/\b3m (w.heap.size+2) v u l.length/\DBx (w.heap.size+1) u v/\DBx w.heap.size (.slice none 0 0) v/\a0e B C K w v
theorem b7w (B C N:Nat) (w:World) (hN:N<2^33) (h:a1o B C N w) :
 Cz 110 #[.pointer (some ⟨C,0,none⟩)] w (d4b B C (N+1000) w):=by
 have hlt:=h.lt
 have hba:Bl w ((w.alloc (.cells #[.slice none 0 0] 26)).alloc (.cells #[.slice none 0 0] 26)):=((Below.refl w.heap.size w).alloc lZ _).alloc sZ _
 have HC:=qh ((a0e.refl h (Nat.le_refl N)).below hba)
 have HD1:=qh (show DBx (w.heap.size+1) (.slice none 0 0) ((w.alloc (.cells #[.slice none 0 0] 26)).alloc (.cells #[.slice none 0 0] 26)) by have h:=DBx.new (.slice none 0 0) 26 (w.alloc (.cells #[.slice none 0 0] 26));simpa using h)
 have HD0:=qh ((DBx.new (.slice none 0 0) 26 w).below (bZ.alloc lZ (.cells #[.slice none 0 0] 26)))
 clear h hba
 go_enter func110,ntmps110
 go_wp2_with fail
 refine (a0r B C N 7 _ oZ dZ HC.o.1).mono ?_
 rintro e w1 ⟨x,hx,rfl,hc⟩
 have hx7:x<7:=by omega
 have HR:=qh (show DRun B C (N+2) w w1 [] (.slice none 0 0) from⟨⟨none,0,rfl⟩,⟨⟨by simp,(λe h=>by cases h),(λe h=>by cases h)⟩,(λe h=>by cases h),List.Pairwise.nil⟩,RowO.nil _ _,⟨w.heap.size+2,[],Nat.le_refl _,World.ownsRow_nil _ _ _ _⟩,HD1.o.a0b hc.2 oZ,HD0.o.a0b hc.2 oZ,HC.o.trans hc⟩)
 clear hc hx HC HD1 HD0
 go_wp2_with fail
 go_loopw [4] (λn wr=>∃(l:P.Dic) (u:Value) (k:Nat),l.length+k<=9/\(0<l.length\/0<k)/\n=.int .i64 k/\DRun B C (N+1000-100*k) w wr l u) (λn _=>(intOf n).toNat)
 case atStart=>
  obtain⟨h1,h2,h3,h4,h5,h6,h7⟩:=HR.o;exact⟨[],_,x+3,by simp;omega,.inr oZ,by go_num,h1,h2,h3,h4,h5,h6,h7.mono oZ⟩
 case round=>
  obtain⟨l,u,k,hk,hpos,rfl,hr⟩:=hrel;have H3:=qh hr;obtain⟨⟨ua,uc,rfl⟩,hdr,hen,hwh,hbx,hbr,hcp⟩:=hr
  by_cases hp:0<k
  .have hS:=qh (show wr.drew.cell? ⟨w.heap.size+1,0,none⟩=some (.slice ua l.length uc)/\wr.drew.frozen? ⟨w.heap.size+1,0,none⟩=false from⟨hbx.1,hbx.2.1⟩);have HE1:=qh (hen.below a0f (Below.refl wr.heap.size wr).drew);have HW1:=qh (hwh.a0b (X:=λ_=>False) (Below.chg (Below.refl wr.heap.size wr).drew _) (λ_ _ _ h=>h));have HB1:=qh (hbx.below (Below.refl wr.heap.size wr).drew);have HB0:=qh (hbr.below (Below.refl wr.heap.size wr).drew);have HC1:=qh hcp.drew;have HDR:=qh hdr.1;have HSH:=qh hdr.2;have HPS:=qh hpos;clear hen hwh hbx hbr hcp hdr hpos;go_upto_region 5 with fail;refine Left.region [4] (S:=λv=>v.cell? ⟨w.heap.size+1,0,none⟩=some (.slice ua l.length uc)/\v.frozen? ⟨w.heap.size+1,0,none⟩=false) kZ hS.o (λhS0=>?_);generalize wr.drew=v0 at *;refine lk7 0 hS0 ?_;refine lk7 1 hS0 ?_;refine lrd 2 λK hK=>?_;go_simp;refine (c4k B C (N+1000-100*k) _ oZ HC1.o.1).mono ?_;rintro e v1 ⟨o,t,x,rfl,ho,ht,hI,hc⟩;have hz0:w.heap.size+1<v0.heap.size:=HB1.o.2.2;have hz1:v0.heap.size<=v1.heap.size:=hc.2.size;have HE2:=qh (HE1.o.a0b a0f hc.2 (λb hb e=>by have h1:=hb.1;omega));have HB2:=qh (HB1.o.a0b hc.2 oZ);have HB02:=qh (HB0.o.a0b hc.2 oZ);have HC2:=qh (HC1.o.trans hc);have HI:=qh hI;refine a1r hK dZ ⟨HB2.o.1,HB2.o.2.1⟩ (λhS1=>?_);clear hK K hc hI HE1 HB1 HB0 HC1;obtain⟨xd,xc,rfl,_,_⟩:=id HI.o;refine zm0 ?_;refine lrd 3 λK hK=>?_;go_simp;refine (e1y _ _ l o t _ (Ents.read HE2.o) (Ints.read HI.o) HDR.o.small.len HDR.o.small.outs oZ).mono ?_;rintro e v2 ⟨u2,rfl,hI2,hw2,hb⟩;have hz2:v1.heap.size<=v2.heap.size:=hb.size;have HB3:=qh (HB2.o.below hb);have HB03:=qh (HB02.o.below hb);have HC3:=qh (HC2.o.below hb);have HI2:=qh hI2;have HW2:Hq (b3m v1.heap.size v2 u2 (P.putF (o,t) false l).length):=⟨hw2⟩;refine a1r hK dZ ⟨HB3.o.1,HB3.o.2.1⟩ (λhS2=>?_);clear hK K hb hI2 hw2 HB2 HB02 HC2;obtain⟨u2d,u2c,rfl,_,_⟩:=id HI2.o;refine zm0 ?_;refine lrd 4 λK hK=>?_;obtain⟨k0,k1,_⟩:=HB3.o;go_simp;refine a2p hK dZ ?_;clear hK K;refine zm0 ?_;refine Left.done kZ ?_ _;have HPL:=qh (P.d4o (o,t) l)
   have HRUN:=qh (show DRun B C (N+1000-100*(k-1)) w (v2.setCell ⟨w.heap.size+1,0,none⟩ (.slice u2d (P.putF (o,t) false l).length u2c)) (P.putF (o,t) false l) (.slice u2d (P.putF (o,t) false l).length u2c) from by
    have hset:Chg (λb=>b=w.heap.size+1) v2 (v2.setCell ⟨w.heap.size+1,0,none⟩ (.slice u2d (P.putF (o,t) false l).length u2c)):=(Chg.refl (λb=>b=w.heap.size+1) v2).setCell (p:=⟨w.heap.size+1,0,none⟩) rfl _;have hsz:(v2.setCell ⟨w.heap.size+1,0,none⟩ (.slice u2d (P.putF (o,t) false l).length u2c)).heap.size=v2.heap.size:=by simp [World.setCell]
    refine⟨⟨_,_,rfl⟩,⟨⟨?_,?_,?_⟩,HSH.o.put ho⟩,?_,?_,HB3.o.put,HB03.o.a0b hset oZ,(HC3.o.set (g:=w.heap.size+1) (i:=0) oZ hlt.2 oZ _).mono oZ⟩
    .have:=HPL.o;have:=HDR.o.len;omega
    .intro e he
     rcases c0w he with rfl|he
     .show o.length<=8;omega
     .exact HDR.o.outs e he
    .intro e he
     rcases c0w he with rfl|he
     .exact ht
     .exact HDR.o.texts e he
    .refine (HI2.o.a0b a0f hset (λb hb e=>by have h1:=hb.1;omega)).wide (λb hb=>⟨by have h1:=hb.1;omega,by rw [hsz];exact hb.2⟩) (λb hb=>hb.2)
    .obtain⟨B1,xs,h1,h2⟩:=HW2.o.a0b hset (λk h1 h2 e=>by omega);exact⟨B1,xs,by omega,h2⟩)
   have HPP:=qh (e0m (o,t) l);clear hS0 hS1 hS2 hS HE2 HI HI2 HW2 HB3 HB03 HC3 k0 k1 HW1;generalize v2.setCell ⟨w.heap.size+1,0,none⟩ (.slice u2d (P.putF (o,t) false l).length u2c)=v3 at *;go_wp2
   go_roundw
   case rel=>exact⟨_,_,k-1,by have:=HPL.o;omega,.inl HPP.o,by go_num,HRUN.o⟩
   case measure=>exact zq
  .have HPS:=qh (show 0<l.length by omega);have HDR:=qh hdr;have HEN:=qh hen;have HWH:=qh hwh;have HCP:=qh hcp;have HBX:=qh hbx;have HBR:=qh hbr;obtain⟨b0,f0,z0⟩:=hbx;obtain⟨r0,g0,y0⟩:=hbr;clear hdr hen hwh hcp hpos;go_wp2;refine bodyPost_ret (v:=.agg #[.slice ua l.length uc]) (by simp [results,results110,go_sem,r0]) rfl ⟨l,_,rfl,HDR.o.1,HDR.o.2,by omega,HPS.o,?_,?_,?_⟩
   .refine b3p w.heap.size HEN.o λb hb=>?_;have h1:=hb.1;have h2:=hb.2;omega
   .obtain⟨B1,xs,h1,h2⟩:=HWH.o.a0b ((Chg.refl (λb=>b=w.heap.size) wr).setCell (p:=⟨w.heap.size,0,none⟩) rfl (.slice ua l.length uc)) (λk h1 h2 e=>by omega);exact⟨B1,xs,by omega,h2⟩
   .exact (HCP.o.set (g:=w.heap.size) (i:=0) lZ hlt.2 oZ _).mono oZ
theorem b0p (B C N:Nat) (w:World) (hN:N<2^33) (h:a1o B C N w) :
 Cz 110 #[.pointer (some ⟨C,0,none⟩)] w (d9o B C (N+1000) w):=
 (b7w B C N w hN h).mono λ_ _ ⟨l,u,h1,h2,_,h4⟩=>⟨l,u,h1,h2,h4⟩
abbrev EIt:=(Value×P.Ent)×Blk
structure EOk (v:World) (F:Blk) (its:List EIt):Prop where
 ent:∀t∈its,Ints v t.2 t.1.1 t.1.2.1
 sub:∀t∈its,∀b,t.2 b->F b
 apart:its.Pairwise λa b=>∀x,a.2 x->b.2 x->False
theorem EOk.keep {its:List EIt} (h:EOk v F its) (hk:Kept F v v'):EOk v' F its:=
 ⟨λt ht=>(h.ent t ht).keep a1l (hk.mono λb hb=>h.sub t ht b hb),h.sub,h.apart⟩
theorem Ents.items {ad:Option Addr} {cap:Nat} (h:Ents v F (.slice ad n cap) l):∃its:List EIt,its.map (·.1.2)=l/\EOk v F its /\
 ∀(j:Nat) (hj:j<its.length),∃g o,ad=some ⟨g,o,none⟩/\F g/\g<v.heap.size/\v.cell? ⟨g,o+j*2,none⟩=some (its[j]'hj).1.1/\v.cell? ⟨g,o+j*2+1,none⟩=some (.string (S (its[j]'hj).1.2.2)):=by
 obtain⟨ad',cap',he,h1,hn,h3⟩:=h
 injection he with e1 e2 e3
 subst e1
 rcases h3 with rfl|⟨g,o,G,C,rfl,hr⟩
 .exact⟨[],rfl,⟨(λ_ h=>by cases h),(λ_ h=>by cases h),List.Pairwise.nil⟩,λj hj=>absurd hj (Nat.not_lt_zero _)⟩
 .have hx:∀j,∃x,∀hj:j<l.length,C j=[x,.string (S (l[j]'hj).2)]/\Ints v (G j) x (l[j]'hj).1:=by
   exact zq146
  obtain⟨f,hf⟩:=Classical.axiomOfChoice hx;refine⟨List.ofFn λj:Fin l.length=>((f j,l[j]),G j),?_,⟨?_,?_,?_⟩,?_⟩
  .refine List.ext_getElem sZ λi h1 h2=>by simp
  .intro t ht;obtain⟨j,rfl⟩:=List.mem_ofFn.1 ht;exact (hf j j.2).2
  .intro t ht;obtain⟨j,rfl⟩:=List.mem_ofFn.1 ht;exact λb hb=>(hr.sub j j.2 b hb).1
  .exact zq156
  .intro j hj;have hj':j<l.length:=by simpa using hj
   refine⟨g,o,rfl,hr.own,hr.lt _ hr.own,?_,?_⟩
   .have h:=hr.cel j hj' 0 (by rw [(hf j hj').1];simp);simp only [(hf j hj').1,List.getElem_cons_zero,Nat.add_zero]at h;rw [List.getElem_ofFn];exact h.1
   .have h:=hr.cel j hj' 1 (by rw [(hf j hj').1];simp);simp only [(hf j hj').1,List.getElem_cons_zero,List.getElem_cons_succ]at h;rw [List.getElem_ofFn];exact h.1
abbrev a7h (its:List EIt):List Value:=its.flatMap λt=>[t.1.1,.string (S t.1.2.2)]
theorem b1x:∀its:List EIt,(a7h its).length=its.length*2
 |[]=>rfl
 |t::its=>by
  have h:=b1x its;simp only [a7h,List.flatMap_cons,List.length_append,List.length_cons,List.length_nil]at h⊢;omega
theorem b4f:∀(its:List EIt) (j:Nat) (h:j<its.length),(a7h its)[j*2]?=some (its[j]'h).1.1/\(a7h its)[j*2+1]?=some (.string (S (its[j]'h).1.2.2))
 |t::its,0,_=>⟨rfl,rfl⟩
 |t::its,j+1,h=>by
  have:=b4f its j (by simpa using h);have e:a7h (t::its)=t.1.1::.string (S t.1.2.2)::a7h its:=rfl;rw [e,show (j+1)*2=j*2+1+1 by omega]
  simpa using this
theorem c1b (a b:List EIt):a7h (a++b)=a7h a++a7h b:=by unfold a7h;rw [List.flatMap_append]
theorem c1n {c:Nat} {its:List EIt} (hown:v.ownsRow B 119 2 (.slice (some ⟨g,0,none⟩) its.length c) its.length (a7h its)) (ho:EOk v F its) (hF:∀b,F b->b<v.heap.size) (hg:¬F g) (hl:its.length<=2^30) :
 Ents v (λb=>F b\/b=g) (.slice (some ⟨g,0,none⟩) its.length c) (its.map (·.1.2)):=by
 have hlt:=World.ownsRow.lt hown g rfl
 rcases id hown.2 with⟨hv,_⟩|⟨g',cap,cur,hv,_,_,hnc,_⟩
 .cases hv
 .injection hv with e1 e2 e3;subst e3;refine⟨_,c,by rw [List.length_map],by rw [List.length_map];exact hl,⟨(λh=>by cases h),by rw [List.length_map];exact hnc⟩,.inr ⟨g,0,λj=>match its[j]? with|some t=>t.2|none=>λ_=>False,λj=>match its[j]? with|some t=>[t.1.1,.string (S t.1.2.2)]|none=>[],rfl,RowC.mk_at _ _ (.inr rfl) (λb hb=>by rcases hb with hb|rfl;exact hF b hb;exact hlt.2) (λj hj=>?_) (λi j hij hj b h1 h2=>?_)⟩⟩
  .have hj':j<its.length:=by simpa using hj
   have e:its[j]?=some (its[j]'hj'):=List.getElem?_eq_getElem hj';have hm:=List.getElem_mem hj';simp only [e];refine⟨?_,rfl,?_,λb hb=>?_⟩
   .obtain⟨a,b⟩:=b4f its j hj';intro i hi;have hi2:i<2:=by simpa using hi
    have c:=World.ownsRow.cellAt hown (j*2+i) oZ;refine⟨?_,World.ownsRow.frozenAt hown _⟩;rw [show 0+j*2+i=0+(j*2+i) by omega,Nat.zero_add]at *;rw [c]
    rcases (show i=0\/i=1 by omega) with rfl|rfl
    .exact a
    .exact b
   .refine⟨(its[j]'hj').1.1,by simp,?_⟩;have:=ho.ent _ hm
    simpa using this
   .exact⟨.inl (ho.sub _ hm b hb),λe=>hg (e ▸ ho.sub _ hm b hb)⟩
  .have hj':j<its.length:=by simpa using hj
   have ei:its[i]?=some (its[i]'(by omega)):=List.getElem?_eq_getElem oZ;have ej:its[j]?=some (its[j]'hj'):=List.getElem?_eq_getElem hj';simp only [ei]at h1;simp only [ej]at h2;exact (List.pairwise_iff_getElem.1 ho.apart) i j oZ hj' hij b h1 h2
theorem Ents.b1e {xs:List Value} (h:Ents v F u l) (hw:v.ownsRow B 119 2 u l.length xs) (hn:0<l.length) :
 ∃g cap its,u=.slice (some ⟨g,0,none⟩) l.length cap/\B<=g/\g<v.heap.size/\F g/\its.map (·.1.2)=l/\xs=a7h its/\EOk v (λb=>F b/\b≠g) its:=by
 rcases id hw.2 with⟨_,h0⟩|⟨g,cap,cur,rfl,hg,hh,hnc,hcm,hcs,htk⟩
 .omega
 .obtain⟨ad',cap',he,h1,hnn,h3⟩:=h;injection he with e1 e2 e3
  rcases h3 with rfl|⟨g',o,G,C,h4,hr⟩
  .exact absurd hn (Nat.lt_irrefl _)
  .rw [h4]at e1;injection e1 with e1;injection e1 with e1 e5;subst e1 e5
   have hx:∀j,∃x,∀hj:j<l.length,C j=[x,.string (S (l[j]'hj).2)]/\Ints v (G j) x (l[j]'hj).1:=by
    exact zq146
   obtain⟨f,hf⟩:=Classical.axiomOfChoice hx;refine⟨g,cap,List.ofFn λj:Fin l.length=>((f j,l[j]),G j),rfl,hg,hr.lt _ hr.own,hr.own,?_,?_,⟨?_,?_,?_⟩⟩
   .refine List.ext_getElem sZ λi h1 h2=>by simp
   .apply List.ext_getElem?;intro i;have hcell:=World.ownsRow.cells hw (g:=g) rfl
    by_cases hi:i<l.length*2
    .have hil:i<xs.length:=by rw [hw.1];exact hi
     have hc:=hcell i (xs[i]'hil) (List.getElem?_eq_getElem hil);rw [add0]at hc;rw [List.getElem?_eq_getElem hil];have hj:i / 2<l.length:=by omega
     have hj':i / 2<(List.ofFn λj:Fin l.length=>(((f j,l[j]),G j):EIt)).length:=by simpa using hj
     obtain⟨a,b⟩:=b4f (List.ofFn λj:Fin l.length=>(((f j,l[j]),G j):EIt)) (i / 2) hj';simp only [List.getElem_ofFn]at a b
     rcases Nat.mod_two_eq_zero_or_one i with hm|hm
     .have h:=(hr.cel (i / 2) hj 0 (by rw [(hf _ hj).1];simp)).1;simp only [(hf _ hj).1,List.getElem_cons_zero]at h;rw [show 0+i / 2*2+0=i by omega,hc]at h;rw [show i / 2*2=i by omega]at a;rw [a,h]
     .have h:=(hr.cel (i / 2) hj 1 (by rw [(hf _ hj).1];simp)).1;simp only [(hf _ hj).1,List.getElem_cons_zero,List.getElem_cons_succ]at h;rw [show 0+i / 2*2+1=i by omega,hc]at h;rw [show i / 2*2+1=i by omega]at b;rw [b,h];rfl
    .rw [List.getElem?_eq_none (by rw [hw.1];omega),List.getElem?_eq_none (by rw [b1x];simp;omega)]
   .intro t ht;obtain⟨j,rfl⟩:=List.mem_ofFn.1 ht;exact (hf j j.2).2
   .intro t ht;obtain⟨j,rfl⟩:=List.mem_ofFn.1 ht;exact λb hb=>hr.sub j j.2 b hb
   .exact zq156
end Go.Proofs.YtggfdnopminemaaGreatDoor
