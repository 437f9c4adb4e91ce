import Derived.Test.YtllefinciimffaaGreatDoorMClaimTopForms29
import Derived.Test.YtllefinciimffaaGreatDoorMClaimTopForms20
set_option maxHeartbeats 20000000
set_option maxRecDepth 100000
namespace Go.Proofs.YtllefinciimffaaGreatDoor
open Go.RowKit Go.Shelf
def jM (l:List Nat):List Int:=l.map fun (n:Nat)=>(n:Int)
theorem pZ (l:List Nat):(jM l).length=l.length:=aLz ..
theorem NE (l:List Nat):cB (jM l)=aZ l:=by
 unfold cB jM aZ;rw[aMg];rfl
theorem DT (f : Nat → Bool) : ∀ k, (aV f k).1.sum + (aV f k).2 = k
 |0=>rfl
 |k+1=>by
  have ih:=DT f k;by_cases hs:f k=tD f k
  ·rw[pN hs];show (aV f k).1.sum+((aV f k).2+1)=k+1;omega
  ·rw[tF hs];show ((aV f k).1++[(aV f k).2]).sum+1=k+1;rw[List.sum_append];simp;omega
theorem J6 (f:Nat→Bool) (k:Nat):(iW f k).sum=k:=by
 unfold iW;rw[List.sum_append];have:=DT f k;simpa using this
theorem sI (l:List Nat) (i:Nat):(l.take i).sum≤l.sum:=by
 have h:=congrArg List.sum (aLK i l);rw[List.sum_append] at h;omega
theorem F8 (l:List Nat) (i:Nat):wZ (jM l) i=(((l.take i).sum:Nat):Int):=by
 unfold wZ jM;rw[←List.map_take];generalize l.take i=k;induction k with
 |nil=>rfl
 |cons a k ih=>simp only[List.map_cons,List.sum_cons,ih];omega
theorem jI {l:List Nat} {i a:Nat} (h:l[i]? = some a):(l.take (i+1)).sum=(l.take i).sum+a:=by
 rw[aMc,h,List.sum_append];simp
theorem PO (c:Cd):∀u∈c.cells,u.oneCell'=true:=by simp[Cd.cells,Value.oneCell']
theorem TL {w:World} {ad:Addr} {zs:List Int} {i:Nat} (h:Reads w 1 (some ad) zs.length (cB zs)) (hi:i≤zs.length):Reads w 1 (some (ad.add i)) (zs.length-i) (cB (zs.drop i)):=by
 have h1:=XY (i:=i) (m:=zs.length-i) h (by omega);have e:(zs.drop i).take (zs.length-i)=zs.drop i:=aL6 (by rw[aLJ];omega)
 rwa [e] at h1
theorem J7 {l:List Nat} {i:Nat} (h:l.length≤i):(l.take i).sum=l.sum:=by rw[aL6 h]
theorem TM {W H:Int} {an:Nat} {y:Int} (hz:jW (aD W H an) H y=0):∃Wn Hn yn:Nat,W=(Wn:Int)∧H=(Hn:Int)∧y=(yn:Int)∧an=Wn*Hn∧Wn≤4000∧Hn≤4000∧yn<Hn:=by
 have h1:=bA hz _ (List.mem_cons_self ..);have h2:=bA hz (aF (!inB y 0 (H-1)) 13) (by simp);have hin:inB y 0 (H-1)=true:=by
  cases h:inB y 0 (H-1)
  ·rw[h] at h2;exact absurd h2 (by decide)
  ·rfl
 rw[aR] at hin;have hs:aE W H=0:=by
  unfold aD at h1;by_cases h2:aE W H=0
  ·exact h2
  ·rw[if_neg h2] at h1;exact h1
 have hz2:=aL hs;unfold aD at h1;rw[if_pos hs] at h1;have han:(an:Int)=W*H:=by
  by_cases h:(an:Int)=W*H
  ·exact h
  ·rw[if_neg h] at h1;exact absurd h1 (by decide)
 obtain ⟨Wn,rfl⟩:=Int.eq_ofNat_of_zero_le (show 0≤W by omega);obtain ⟨Hn,rfl⟩:=Int.eq_ofNat_of_zero_le (show 0≤H by omega);obtain ⟨yn,rfl⟩:=Int.eq_ofNat_of_zero_le hin.1;exact ⟨Wn,Hn,yn,rfl,rfl,rfl,by exact_mod_cast han,by omega,by omega,by omega⟩
def ReadRowRes (W H:Int) (an:Nat) (bs:List Bool) (y:Int) (w:World) (e:Ending) (w':World):Prop:=∃R m d err,e=.returned (.tuple #[.slice R m d,.int .i64 err])∧err=jW (aD W H an) H y∧(err≠0→R=none∧m=0) ∧
 (err=0→m=(LA (jM (iW (fun x=>pix bs W.toNat x y.toNat) W.toNat)) y).length∧Reads w' 6 R m (aU (LA (jM (iW (fun x=>pix bs W.toNat x y.toNat) W.toNat)) y)))∧Bl w w'
theorem NF {W H:Int} {an:Nat} {bs:List Bool} {y:Int} {w w':World} {err:Int} (h:err=jW (aD W H an) H y) (hz:err≠0) (hb:Bl w w'):ReadRowRes W H an bs y w (.returned (.tuple #[.slice none 0 0,err])) w':=
 ⟨none,0,0,err,rfl,h,fun _=>⟨rfl,rfl⟩,fun h=>absurd h hz,hb⟩
theorem NG (W H:Int) (A:Option Addr) (an ac:Nat) (bs:List Bool) (y:Int) (w:World) (hA:Reads w 1 A an (bs.map .bool)) (hac:an≤ac) (hT:SpOk w) :
 Calls Tryz.prog 183 #[.agg #[W,H,.slice A an ac],y] w (ReadRowRes W H an bs y w):=by
 let w2:=(w).alloc (.cells #[W,H,.slice A an ac] 43);obtain ⟨w2b,w21⟩:=aLh (x:=w2) w _ _ rfl;have HT:=aLa (hT.bl w2b);have hru:=aAK W H A an ac bs y w2 (hA.bl w2b) hac;unfold RunsRes at hru;obtain ⟨E,hE⟩:=aLt (jW (aD W H an) H y);rw[←hE] at hru;have Hru:=aLa hru;have HE:=aLa hE;have k1:=w21.all3;clear hA hT hru hE
 go_in
 go_wp2_with fail;refine Hru.out.mono ?_;rintro e w3 ⟨R,m,d,E',rfl,rfl,wW,hok,ZL⟩;rename Int=>E;have hb3:Bl w2 w3:=ZL;clear ZL Hru k1;clear_value w2;have HW3:=aLa (w2b.trans hb3);by_cases hz:E=0;case neg=>
  have hq:(E != 0)=true:=(by simp[hz]);have HZ:=aLa hz;clear hz wW hok;go_wp2_with fail;exact aL0 (v:=.tuple #[.slice none 0 0,.int .i64 E]) (by simp[results,Tryz.results183,go_sem]) rfl (NF HE.out HZ.out HW3.out)
 case pos=>
  obtain ⟨Wn,Hn,yn,rfl,rfl,rfl,rfl,hW4,hH4,hy⟩:=TM (HE.out.symm.trans hz);obtain ⟨hm2,hrd,hd⟩:=hok hz;subst hz;simp only[aL8] at hm2 hrd;obtain ⟨l,hl⟩:=aLt (iW (fun x=>pix bs Wn x yn) Wn);have hls:l.sum≤4000:=(by rw[hl,J6];exact hW4);have hll:l.length≤4001:=by
   rw[hl];unfold iW;have:=(tE (fun x=>pix bs Wn x yn) Wn).1;rw[aLy,aLR];omega
  have hl0:0<l.length:=(by rw[hl];unfold iW;simp);rw[←hl] at hm2 hrd;obtain ⟨n,hn⟩:=aLt l.length;rw[←hn] at hll hl0 hm2;subst hm2;obtain ⟨ad,rfl,-⟩:=hrd.2 hl0;obtain ⟨zs,hzs⟩:=aLt (jM l);have HZl:=aLa (show zs.length=m by rw[hzs,pZ,←hn]);have HRz:=aLa (show Reads w3 1 (some ad) zs.length (cB zs) by rw[HZl.out,hzs,NE];exact hrd);have aBS:=aLa (show ∀k,wZ zs k=(((l.take k).sum:Nat):Int)∧(l.take k).sum≤4000 from fun k=>⟨by rw[hzs];exact F8 l k,by have:=sI l k;omega⟩);have aEc:=aLa (fun (cs:List Cd) (h:cs=LA zs yn)=>show cs=LA (jM (iW (fun x=>pix bs ((Wn:Int)).toNat x ((yn:Int)).toNat) ((Wn:Int)).toNat)) (yn:Int) by
   simp only[aL8];rw[←hl,←hzs];exact h)
  have HN:=aLa hn;have HD:=aLa hd;have aBT:=aLa (fun (i a:Nat) (hi:l[i]? = some a) (wx:World) (hx:Bl w3 wx)=>show wx.cell? (ad.add i)=some (.int .i64 a) by
   obtain ⟨ad',e',hc⟩:=(hrd.bl hx).2 hl0;injection e' with e';subst e';exact hc i _ (by unfold aZ;rw[aLG,hi];rfl))
  have HT3:=aLa (HT.out.bl hb3);obtain ⟨a0,ha0⟩:∃a,l[0]? = some a:=⟨_,aLv (by rw[←hn];exact hl0)⟩;have hc0:=aBT.out 0 a0 ha0 w3 (Bl.refl _);have hs1:(l.take 1).sum=a0:=(by rw[jI ha0];simp);have HS1:=aLa hs1;rw[show ad.add 0=ad by unfold Addr.add;simp] at hc0;clear hs1 ha0 hn hd hzs hrd hl hok wW hls HT;go_wp2_with fail;go_loopw [8,9,10] (fun s8 s9 s10 wr=>∃(i:Nat) (out:List Cd),1≤i∧i≤m+2∧s10=.int .i64 i∧s9=.int .i64 (((l.take i).sum:Nat):Int)∧Bl w3 wr∧Hid (RowC wr w3.heap.size s8 out)∧Hid (out++tT zs yn i=LA zs yn∧out.length*30≤i)) (fun _ _ s10 _=>5000-(intOf s10).toNat);case atStart=>exact ⟨1,[],by decide,by omega,rfl,by rw[HS1.out],Bl.refl _,aLa (RowC.nil _ _),aLa ⟨z6 zs yn,by decide⟩⟩
  case round=>
   rename World=>wr;clear hc0;obtain ⟨i,out,hi1,hin,rfl,rfl,hbr,NY,Z3⟩:=hrel;obtain ⟨u,hu⟩:=aLt ((l.take i).sum);have hu4:u≤4000:=(by have:=(aBS.out i).2;omega);have HU:=aLa hu;rw[←hu];clear hu;by_cases hlt:i<m
   ·have aKz:(i:Int)<(m:Int):=(by omega);have hdl:(zs.drop i).length=m-i:=(by rw[aLJ,HZl.out]);have hca:=TD (zs.drop i) (some (ad.add i)) (d-i) wr (by rw[hdl];have h:=TL (HRz.out.bl hbr) (show i≤zs.length by rw[HZl.out];omega);rw[HZl.out] at h;exact h) (by omega) (by have:=HD.out;omega) (HT3.out.bl hbr);rw[hdl] at hca;have Hca:=aLa hca;have HDl:=aLa hdl;have hdm:=HD.out;clear hca hdl;go_wp2_with fail;refine Hca.out.mono ?_;rintro e w4 lQ;have hP:∃kd t many,e=.returned (.tuple #[.agg #[.int .i64 kd,.string ⟨t.toArray⟩,.int .i64 0,.int .i64 0,.int .i64 0,.int .i64 0],.int .i64 ((many:Nat):Int)])∧(gJ (zs.drop i)=some (kd,t,many)∨(many=0∧gJ (zs.drop i)=none))∧Bl wr w4:=by
     rcases lQ with ⟨kd,t,many,hc,he,hb⟩|⟨hc,he,hb⟩
     ·exact ⟨kd,t,many,he,.inl hc,hb⟩
     ·exact ⟨0,[],0,he,.inr ⟨rfl,hc⟩,hb⟩
    obtain ⟨kd,t,many,rfl,hP,hb4⟩:=hP;clear lQ Hca hdm;have HP:=aLa hP;clear hP;go_upto_region 9 with fail;obtain ⟨w5,hw5⟩:=aLt (w4.alloc (.cells #[.int .i64 kd,.string ⟨t.toArray⟩,.int .i64 0,.int .i64 0,.int .i64 0,.int .i64 0] 161));obtain ⟨gc,hgc⟩:=aLt w4.heap.size;have bC:=aLp hw5 hgc;have aBH:=aLn hw5;have aGn:w4.heap.size≤gc:=(by omega);have hb3_4:=hbr.trans hb4;have HR4:=aLa (NY.out.bl hb4);rw[←hw5,←hgc];clear hw5 hgc;go_upto_if 41 with fail;go_cut [8,13,15] from 41 to 69 (fun s8 s13 s15 wc=>∃(out2:List Cd) (st:Nat),s13=.int .i64 st∧2≤st∧i+st≤m+2∧Bl w3 wc∧Hid (RowC wc w3.heap.size s8 out2)∧Hid (out2++tT zs yn (i+st)=LA zs yn∧out2.length*30≤i+st));case first=>
     rcases HP.out with hc|⟨rfl,hc⟩
     ·obtain ⟨hk12,hmn29,aKA⟩:=vC hc;rw[HDl.out] at aKA;have hm0:(0:Int)<(many:Int):=(by omega);have cc:=bC.all6';have HC:=aLa hc;clear hc HP;go_upto_region 12 with fail;obtain ⟨w6,hw6⟩:=aLt (((w5.setCell ⟨gc,2,none⟩ (.int .i64 u)).setCell ⟨gc,3,none⟩ (.int .i64 yn)).setCell ⟨gc,5,none⟩ (.int .i64 1));have bC6:Blk w6 gc 161 #[.int .i64 kd,.string ⟨t.toArray⟩,.int .i64 u,yn,.int .i64 0,.int .i64 1]:=(by rw[hw6];exact ((bC.set_ 2 _).set_ 3 _).set_ 5 _);have aKB:Bl w4 w6:=(by rw[hw6];exact ((aBH.setCell aGn _).setCell aGn _).setCell aGn _);rw[←hw6];have HBC:=aLa bC6;clear hw6 bC cc bC6;have hd2:=HD.out;go_wp2_with fail;go_loopw [54] (fun s54 wx=>∃j:Nat,j≤many∧s54=.int .i64 j∧Bl w4 wx∧Blk wx gc 161 #[.int .i64 kd,.string ⟨t.toArray⟩,.int .i64 u,yn,.int .i64 ((((l.take (i+j)).sum:Nat):Int)-(u:Int)),.int .i64 1]) (fun s54 _=>many-(intOf s54).toNat);case atStart=>exact ⟨0,Nat.zero_le _,rfl,aKB,by rw[Nat.add_zero,←HU.out,Int.sub_self];exact HBC.out⟩
      case round=>
       rename World=>wx;obtain ⟨j,hj,rfl,hbx,hbC⟩:=hrel;have cc:=hbC.all6';have aHD:=hb3_4.trans hbx;by_cases hjl:j<many
       ·obtain ⟨a,ha⟩:∃a,l[i+j]? = some a:=⟨_,aLv (by rw[←HN.out];omega)⟩;have hcj:=aBT.out (i+j) a ha wx aHD;rw[←cY] at hcj;have hss:=jI ha;have hs1:=(aBS.out (i+j)).2;have hs2:=(aBS.out (i+j+1)).2;obtain ⟨s,hs⟩:=aLt ((l.take (i+j)).sum);rw[←hs] at hss hs1 cc hbC;have HSs:=aLa hss;have GO:=hbC.set_ 4 (.int .i64 ((s:Int)-(u:Int)+(a:Int)));have ZI:=aLa (show Blk (wx.setCell ⟨gc,4,none⟩ (.int .i64 ((s:Int)-(u:Int)+(a:Int)))) gc 161 #[.int .i64 kd,.string ⟨t.toArray⟩,.int .i64 u,yn,.int .i64 ((((l.take (i+(j+1))).sum:Nat):Int)-(u:Int)),.int .i64 1] by
         rw[show i+(j+1)=i+j+1 by omega,HSs.out,show (((s+a:Nat):Int)-(u:Int))=(s:Int)-(u:Int)+(a:Int) by omega];exact GO)
        have aFw:(j:Int)<(many:Int):=(by omega);have ha4:a≤4000:=(by omega);clear hs hss GO ha hbC;go_wp2_with fail;exact ⟨⟨j+1,hjl,by go_num,hbx.setCell aGn _,ZI.out⟩,by simp[intOf]<;>omega⟩
       ·obtain rfl:many=j:=(by omega);have aFw:¬(many:Int)<(many:Int):=(by omega);obtain ⟨v,hv⟩:=aLt ((l.take (i+many)).sum);rw[←hv] at cc hbC;have aKC:=aLa (show (out++[⟨kd,t,u,yn,(v:Int)-u,1⟩])++tT zs yn (i+(many+1))=LA zs yn by
         rw[aLL,←Z3.out.1,DP (by rw[HZl.out];exact hlt) HC.out,(aBS.out i).1,(aBS.out (i+many)).1,←HU.out,←hv];rfl)
        have ho:=Z3.out.2;have HRx:=aLa (HR4.out.bl hbx);clear hv hbC;go_wp2_with (at_builtin;refine aQ (w1:=w3) rfl (.tmp 64) (.tmp 66) 158 rfl 161 (.agg #[.int .i64 0,.string ⟨#[]⟩,.int .i64 0,.int .i64 0,.int .i64 0,.int .i64 0]) 6 56 Tryz.underlying158 zH rfl (by omega) w3.heap.size _ out.length (aU out) rfl (aHD.alloc _) (Nat.le_refl _) ((aHD.alloc _).le) (fX HRx.out.1 ((Bl.refl wx).alloc _)) (some ⟨wx.heap.size,0,none⟩) 1 1 (Cd.cells ⟨kd,t,u,yn,(v:Int)-u,1⟩) rfl ((Blk.new _ _ _).reads 1 6 rfl) (PO _) (by unfold maxLen;omega) (by omega) ?_;intro v' w8 cF hb8 hg8;have UH:=aLa cF);have HR8:=aLa (show RowC w8 w3.heap.size v' (out++[⟨kd,t,u,yn,(v:Int)-u,1⟩]) from ⟨by
         rw[mS,aLy];simpa [aU] using UH.out,fun e=>by simp at e⟩)
        have HB8:=aLa hb8;clear cF hb8 hg8 UH cc;go_wp2_with fail;go_meet;case rel=>exact ⟨_,many+1,by go_num,by omega,by omega,HB8.out,HR8,aLa ⟨aKC.out,by simp;omega⟩⟩
     ·have HC:=aLa hc;clear hc HP;go_wp2_with fail;go_meet;case rel=>exact ⟨out,2,rfl,by omega,by omega,hb3_4.trans aBH,aLa (HR4.out.bl aBH),aLa ⟨by rw[←TC (by rw[HZl.out];exact hlt) HC.out];exact Z3.out.1,by have:=Z3.out.2;omega⟩⟩
    case rest=>
     obtain ⟨out2,st,rfl,h2st,hst,hbc,aFx,aFy⟩:=hcut;rename World=>w7;clear bC aBH HP;have HCc:=aLa hbc;clear hbc;have aKD:st≤5000:=(by omega);go_wp2_with fail;go_loopw [9,16] (fun s9 s16 wx=>∃k:Nat,i≤k∧k≤i+st∧k≤max i m∧s16=.int .i64 k∧s9=.int .i64 (((l.take k).sum:Nat):Int)∧w7=wx) (fun _ s16 _=>10000-(intOf s16).toNat);case atStart=>exact ⟨i,Nat.le_refl _,by omega,by omega,rfl,by rw[HU.out],rfl⟩
     case round=>
      obtain ⟨k,hik,hks,hkm,rfl,rfl,rfl⟩:=hrel;by_cases hq:i+st≤m
      ·have q1:¬(m:Int)<(i:Int)+(st:Int):=(by omega);by_cases hk:k<i+st
       ·have q2:(k:Int)<(i:Int)+(st:Int):=(by omega);obtain ⟨a,ha⟩:∃a,l[k]? = some a:=⟨_,aLv (by rw[←HN.out];omega)⟩;have hcj:=aBT.out k a ha w7 HCc.out;have hss:=jI ha;have hs1:=(aBS.out k).2;have hs2:=(aBS.out (k+1)).2;have aEi:(k:Int)<(m:Int):=(by omega);obtain ⟨s,hs⟩:=aLt ((l.take k).sum);rw[←hs] at hss hs1 ⊢;have ha4:a≤4000:=(by omega);have HSs:=aLa hss;clear hs hss ha;go_wp2_with fail;exact ⟨⟨k+1,by omega,by omega,by omega,by go_num,by rw[HSs.out];go_num,by first|rfl|trivial⟩,by simp[intOf]<;>omega⟩
       ·obtain rfl:k=i+st:=(by omega);have q2:¬((i+st:Nat):Int)<(i:Int)+(st:Int):=(by omega);go_wp2_with fail;exact ⟨⟨i+st,out2,by omega,hst,by go_num,rfl,HCc.out,aFx,aFy⟩,by simp[intOf]<;>omega⟩
      ·have q1:(m:Int)<(i:Int)+(st:Int):=(by omega);by_cases hk:k<m
       ·have q2:(k:Int)<(m:Int):=(by omega);obtain ⟨a,ha⟩:∃a,l[k]? = some a:=⟨_,aLv (by rw[←HN.out];omega)⟩;have hcj:=aBT.out k a ha w7 HCc.out;have hss:=jI ha;have hs1:=(aBS.out k).2;have hs2:=(aBS.out (k+1)).2;have aEi:(k:Int)<(m:Int):=(by omega);obtain ⟨s,hs⟩:=aLt ((l.take k).sum);rw[←hs] at hss hs1 ⊢;have ha4:a≤4000:=(by omega);have HSs:=aLa hss;clear hs hss ha;go_wp2_with fail;exact ⟨⟨k+1,by omega,by omega,by omega,by go_num,by rw[HSs.out];go_num,by first|rfl|trivial⟩,by simp[intOf]<;>omega⟩
       ·obtain rfl:k=m:=(by omega);have HOv:=aLa (show (l.take k).sum=(l.take (i+st)).sum by rw[J7 (show l.length≤k by rw[←HN.out];exact Nat.le_refl _),J7 (show l.length≤i+st by rw[←HN.out];omega)]);have q2:¬(k:Int)<(k:Int):=(by omega);go_wp2_with fail;exact ⟨⟨i+st,out2,by omega,hst,by go_num,by rw[HOv.out],HCc.out,aFx,aFy⟩,by simp[intOf]<;>omega⟩
   ·obtain ⟨A',c',rfl,hrd⟩:=cU NY.out.1;have aBN:out=LA zs yn:=by
     have h:=Z3.out.1;rw[z7 (by rw[HZl.out];omega),aMj] at h;exact h
    have HRd:=aLa hrd;have HO:=aLa aBN;clear hrd aBN;have aKz:¬(i:Int)<(m:Int):=(by omega);go_wp2_with fail;refine aL0 (v:=.tuple #[.slice A' out.length c',.int .i64 0]) (by simp[results,Tryz.results183,go_sem]) rfl ⟨A',_,c',0,rfl,HE.out,fun h=>absurd rfl h,fun _ => ?_,HW3.out.trans hbr⟩;rw[←aEc.out out HO.out];exact ⟨rfl,HRd.out⟩
end Go.Proofs.YtllefinciimffaaGreatDoor
namespace Go.Proofs.YtllefinciimffaaGreatDoor
open Go.RowKit
theorem sJ (zs : List Int) (y : Int) : ∀ k i, i ≤ zs.length + 1 → (lN zs y k i).length * 30 ≤ zs.length + 1 - i
 |0,_,_=>Nat.zero_le _
 |k+1,i,h=>by
  show (if i<zs.length then _ else _:List Cd).length*30≤_;by_cases hi:i<zs.length
  ·rw[if_pos hi];cases hc:gJ (zs.drop i) with
   |none=>
    simp only;have:=sJ zs y k (i+2);by_cases h2:i+2≤zs.length+1
    ·have:=this h2;omega
    ·have e:lN zs y k (i+2)=[]:=by
      cases k with
      |zero=>rfl
      |succ k=>show (if _ then _ else _)=[];rw[if_neg (by omega)]
     rw[e];exact Nat.zero_le _
   |some x=>obtain ⟨kd,t,many⟩:=x;obtain ⟨-,h29,hm⟩:=vC hc;rw[aLJ] at hm;have:=sJ zs y k (i+many+1) (by omega);simp only[aLB];omega
  ·rw[if_neg hi];exact Nat.zero_le _
theorem X7 (zs:List Int) (y:Int):(LA zs y).length*30≤zs.length:=by
 have:=sJ zs y zs.length 1 (by omega);unfold LA;omega
theorem X8 : ∀ {ps : List (UInt8 × List UInt8)}, (∀ p ∈ ps, p.2.length = 1) → (lS ps).length = ps.length
 |[],_=>rfl
 |p :: ps,h=>by
  unfold lS;rw[aMi,aLy,h p (List.mem_cons_self ..),aLB];have:=X8 (ps:=ps) fun q hq=>h q (List.mem_cons_of_mem _ hq);unfold lS at this;omega
theorem aBi {m d:List UInt8} (h:jV m=some d):d.length=13:=by
 unfold jV at h;by_cases hh:jA m=true
 ·rw[if_pos hh] at h;cases hp:dI m 12 with
  |none=>rw[hp] at h;cases h
  |some ps=>rw[hp] at h;obtain ⟨f,-,rfl⟩:=Option.map_eq_some_iff.1 h;rw[aLB,X8,jB hp];intro p hpm;obtain ⟨i,hi⟩:=List.getElem?_of_mem hpm;obtain ⟨d,-,-,hn,-⟩:=uT (k:=p.1) (n:=p.2) (mD hp i p hi);rw[hn];rfl
 ·rw[if_neg hh] at h;cases h
theorem J8 (m:List UInt8):(jL m).1.length≤13:=by
 unfold jL;cases h:jV m with
 |none=>exact Nat.zero_le _
 |some d=>
  simp only;have:=aBi h;split
  ·show d.length≤13;omega
  ·exact Nat.zero_le _
theorem PP (m:List UInt8):(nP m).1.length≤43:=by
 rcases zW m with ⟨T,hT1,hT2⟩|⟨-,h⟩
 ·have h43:=(XQ hT2).2;rw[M5 hT1 hT2];split
  ·show (kZ T).length≤43;unfold kZ;rw[aLA,aLJ];omega
  ·exact Nat.zero_le _
 ·rw[h];exact Nat.zero_le _
theorem aDr (kind:Int) (m:List UInt8):(rdK kind m).1.length≤43:=by
 unfold rdK aN;have h1:=J8 m;have h2:=J8 m.reverse;have h3:=PP m;have h4:=PP m.reverse;split
 ·split<;>omega
 ·split<;>omega
theorem J9 {zs:List Int} {kind:Int} {t:List UInt8} (h:A4 zs kind=some t):t.length≤43:=by
 unfold A4 at h;split at h
 ·split at h
  ·rw[←aLZ h];exact aDr _ _
  ·cases h
 ·cases h
theorem TN {zs:List Int} {kd:Int} {t:List UInt8} {many:Nat} (h:gJ zs=some (kd,t,many)):t.length≤43:=by
 cases he:A9 zs with
 |some t'=>
  rw[tU he] at h;obtain ⟨rfl,h2⟩:=Prod.mk.inj (aLZ h);obtain ⟨rfl,rfl⟩:=Prod.mk.inj h2;unfold A9 at he;split at he
  ·exact J9 he
  ·cases he
 |none=>
  cases hf:dO zs 3 with
  |none=>rw[jX he hf] at h;cases h
  |some x=>obtain ⟨m,t'⟩:=x;rw[qW he hf] at h;obtain ⟨rfl,h2⟩:=Prod.mk.inj (aLZ h);obtain ⟨rfl,rfl⟩:=Prod.mk.inj h2;exact J9 (AB hf).2.2
theorem vE {zs : List Int} {y : Int} (hs : ∀ i j, i ≤ j → 0 ≤ wZ zs i ∧ wZ zs i ≤ wZ zs j ∧ wZ zs j ≤ 4000) (hy : 0 ≤ y ∧ y ≤ 4000) : ∀ k i, ∀ c ∈ lN zs y k i, gT c = 0 ∧ c.t.length ≤ 43
 |0,_,c,h=>by cases h
 |k+1,i,c,h=>by
  have h:c∈(if i<zs.length then (match gJ (zs.drop i) with
   |some (kd,t,many)=>⟨kd,t,wZ zs i,y,wZ zs (i+many)-wZ zs i,1⟩ :: lN zs y k (i+many+1)
   |none=>lN zs y k (i+2)) else []:List Cd):=h
  by_cases hi:i<zs.length
  ·rw[if_pos hi] at h;cases hc:gJ (zs.drop i) with
   |none=>rw[hc] at h;exact vE hs hy k (i+2) c h
   |some x=>
    obtain ⟨kd,t,many⟩:=x;rw[hc] at h;rcases aLN.1 h with rfl|h
    ·obtain ⟨hk,-,-⟩:=vC hc;have h1:=hs i (i+many) (by omega);have h0:=hs 0 i (by omega);refine ⟨?_,TN hc⟩;unfold gT;rw[if_neg (by show ¬(kd≠1∧kd≠2);omega)];have:jS ⟨kd,t,wZ zs i,y,wZ zs (i+many)-wZ zs i,1⟩=true:=by
      unfold jS;simp only[aLV];exact ⟨aR.2 (by omega),aR.2 hy,aR.2 (by omega),aR.2 (by omega)⟩
     rw[this];rfl
    ·exact vE hs hy k (i+many+1) c h
  ·rw[if_neg hi] at h;cases h
theorem aDs {l:List Nat} {y:Int} (hl:l.sum≤4000) (hy:0≤y∧y≤4000):∀c∈LA (jM l) y,gT c=0∧c.t.length≤43:=by
 refine vE (fun i j hij => ?_) hy _ _;rw[F8,F8];have h1:=sI l j;have h2:(l.take i).sum≤(l.take j).sum:=by
  have:=sI (l.take j) i
  rwa [List.take_take,Nat.min_eq_left hij] at this
 omega
def iQ (bs:List Bool) (W y:Nat):List Cd:=LA (jM (iW (fun x=>pix bs W x y) W)) (y:Int)
def aO (bs : List Bool) (W step : Nat) : Nat → List Cd
 |0=>[]
 |j+1=>aO bs W step j++iQ bs W (j*step)
theorem YA {bs:List Bool} {W y:Nat} (hW:W≤4000) (hy:y≤4000):∀c∈iQ bs W y,gT c=0∧c.t.length≤43:=aDs (by rw[J6];exact hW) (by omega)
theorem YB (f:Nat→Bool) (k:Nat):(iW f k).length≤k+1:=by
 unfold iW;have:=(tE f k).1;rw[aLy,aLR];omega
theorem DU (bs:List Bool) (W y:Nat):(iQ bs W y).length*30≤W+1:=by
 have h:=X7 (jM (iW (fun x=>pix bs W x y) W)) (y:Int);rw[pZ] at h;have:=YB (fun x=>pix bs W x y) W;unfold iQ;omega
theorem AD (bs : List Bool) (W step : Nat) : ∀ j, (aO bs W step j).length * 30 ≤ j * (W + 1)
 |0=>Nat.zero_le _
 |j+1=>by
  have h1:=AD bs W step j;have h2:=DU bs W (j*step);show (aO bs W step j++iQ bs W (j*step)).length*30≤_;rw[aLy,Nat.add_mul,Nat.add_mul];omega
theorem qY {bs : List Bool} {W step H : Nat} (hW : W ≤ 4000) (hH : H ≤ 4000) : ∀ j, (∀ i, i < j → i * step < H) → ∀ c ∈ aO bs W step j, gT c = 0 ∧ c.t.length ≤ 43
 |0,_,c,h=>by cases h
 |j+1,hj,c,h=>by
  rcases aLM.1 h with h|h
  ·exact qY hW hH j (fun i hi=>hj i (by omega)) c h
  ·exact YA hW (by have:=hj j (by omega);omega) c h
def NH (H step:Nat):Nat:=(H+step-1) / step
theorem aBj {H step:Nat} (hs:1≤step) (j:Nat):j*step<H↔j<NH H step:=by
 unfold NH;rw[Nat.lt_iff_add_one_le (m:=j),Nat.le_div_iff_mul_le (by omega),Nat.add_mul];omega
theorem YC {cs:List Cd} (h:∀c∈cs,gT c=0):dW cs=aF (decide (10000<(cs.length:Int))) 4:=by
 unfold dW;rw[if_pos];have:∀l:List Cd,(∀c∈l,gT c=0)→aG (l.map gT)=0:=by
  intro l;induction l with
  |nil=>intro _;rfl
  |cons c l ih=>intro hl;show (if gT c=0 then aG (l.map gT) else gT c)=0;rw[if_pos (hl c (List.mem_cons_self ..))];exact ih fun x hx=>hl x (List.mem_cons_of_mem _ hx)
 exact this cs h
end Go.Proofs.YtllefinciimffaaGreatDoor
namespace Go.Proofs.YtllefinciimffaaGreatDoor
open Go.RowKit Go.Shelf
def jJ (pe step:Int):Int:=aG [pe,aF (!inB step 1 4000) 3]
theorem NI (cs:List Cd):∀u∈aU cs,u.oneCell'=true:=by
 intro u hu;unfold aU at hu;obtain ⟨c,-,h⟩:=List.mem_flatMap.1 hu;exact PO c u h
def FindRes (W H:Int) (an:Nat) (bs:List Bool) (step:Int) (w:World) (e:Ending) (w':World):Prop:=
 (jJ (aD W H an) step≠0∧e=.returned (.tuple #[.slice none 0 0,.int .i64 (jJ (aD W H an) step)])∧Bl w w') ∨
 (jJ (aD W H an) step=0∧VoteRes (aO bs W.toNat step.toNat (NH H.toNat step.toNat)) w e w')
theorem F9 {W H:Int} {an:Nat} {bs:List Bool} {step:Int} {w w':World} {err:Int} (h:jJ (aD W H an) step=err) (hz:err≠0) (hb:Bl w w'):FindRes W H an bs step w (.returned (.tuple #[.slice none 0 0,err])) w':=
 .inl ⟨by rw[h];exact hz,by rw[h],hb⟩
theorem YD (W H:Int) (A:Option Addr) (an ac:Nat) (bs:List Bool) (step:Int) (w:World) (hA:Reads w 1 A an (bs.map .bool)) (hac:an≤ac) (hT:SpOk w) :
 Calls Tryz.prog 141 #[.agg #[W,H,.slice A an ac],step] w (FindRes W H an bs step w):=by
 let w2:=(w).alloc (.cells #[W,H,.slice A an ac] 43);obtain ⟨w2b,w21⟩:=aLh (x:=w2) w _ _ rfl;have HA:=aLa (hA.bl w2b);have HT:=aLa (hT.bl w2b);have k1:=w21.all3;clear hA hT
 go_in
 go_wp2_with fail;refine (bM _ _ _ _ _ _).mono ?_;rintro e w3 ⟨rfl,ZL⟩;have hb3:Bl w2 w3:=ZL;clear ZL k1;clear_value w2;have HW3:=aLa (w2b.trans hb3);obtain ⟨pe,hpe⟩:=aLt (aD W H an);rw[←hpe];have HPe:=aLa hpe;clear hpe;by_cases hz:pe=0;case neg=>
  have hq:(pe != 0)=true:=(by simp[hz]);have HZ:=aLa hz;have HE:=aLa (show jJ (aD W H an) step=pe by
   rw[←HPe.out];show (if pe=0 then _ else pe)=pe;rw[if_neg hz])
  clear hz;go_wp2_with fail;exact aL0 (v:=.tuple #[.slice none 0 0,.int .i64 pe]) (by simp[results,Tryz.results141,go_sem]) rfl (F9 HE.out HZ.out HW3.out)
 case pos=>
  have HE0:=aLa (show jJ (aD W H an) step=aF (!inB step 1 4000) 3 by
   rw[←HPe.out,hz];unfold jJ;cases inB step 1 4000<;>rfl)
  subst hz;by_cases c1:step<1
  ·have HE:=aLa (show jJ (aD W H an) step=3 by rw[HE0.out,dC.2 (.inl c1)];rfl);go_wp2_with fail;exact aL0 (v:=.tuple #[.slice none 0 0,.int .i64 3]) (by simp[results,Tryz.results141,go_sem]) rfl (F9 HE.out (by decide) HW3.out)
  ·by_cases c2:4000<step
   ·have HE:=aLa (show jJ (aD W H an) step=3 by rw[HE0.out,dC.2 (.inr c2)];rfl);go_wp2_with fail;exact aL0 (v:=.tuple #[.slice none 0 0,.int .i64 3]) (by simp[results,Tryz.results141,go_sem]) rfl (F9 HE.out (by decide) HW3.out)
   ·have HE:=aLa (show jJ (aD W H an) step=0 by rw[HE0.out,aR.2 (by omega)];rfl);obtain ⟨Wn,Hn,rfl,rfl,rfl,hW4,hH4,hWH⟩:=fG HPe.out.symm;obtain ⟨st,rfl⟩:∃st:Nat,step=(st:Int):=⟨step.toNat,by omega⟩;have aBL:1≤st:=(by omega);have aKD:st≤4000:=(by omega);obtain ⟨J,hJ⟩:=aLt (NH Hn st);have HJ:=aLa (show ∀j,j*st<Hn↔j<J from fun j=>by rw[hJ];exact aBj aBL j);have aEc:=aLa (fun (e:Ending) (w':World) (h:VoteRes (aO bs Wn st J) w e w')=>show FindRes (Wn:Int) (Hn:Int) (Wn*Hn) bs (st:Int) w e w' from .inr ⟨HE.out,by
     simp only[aL8];rw[←hJ];exact h⟩)
    have NY:=aLa (fun (y:Nat) (hy:y<Hn) (wx:World) (hx:Bl w2 wx)=>show Calls Tryz.prog 183 #[.agg #[Wn,Hn,.slice A (Wn*Hn) ac],.int .i64 y] wx (fun e w'=>∃R d,e=.returned (.tuple #[.slice R (iQ bs Wn y).length d,.int .i64 0])∧Reads w' 6 R (iQ bs Wn y).length (aU (iQ bs Wn y))∧Bl wx w') from
     (NG (Wn:Int) (Hn:Int) A (Wn*Hn) ac bs (y:Int) wx (HA.out.bl hx) hac (HT.out.bl hx)).mono (by
       rintro e w' ⟨R,m,d,err,rfl,aBG,-,hok,hb⟩;have h0:err=0:=by
        rw[aBG];unfold jW;rw[←HPe.out,aR.2 (by omega)];rfl
       subst h0;obtain ⟨rfl,hr⟩:=hok rfl;simp only[aL8] at hr ⊢;exact ⟨R,d,rfl,hr,hb⟩))
    have LC:=aLa (show ∀j,j≤J→(aO bs Wn st j).length≤600000∧(iQ bs Wn (j*st)).length≤200 from fun j hj=>by
     have h1:=AD bs Wn st j;have h2:=DU bs Wn (j*st);have h3:j≤4000:=by
      rcases Nat.eq_zero_or_pos j with h|h
      ·omega
      ·have:=(HJ.out (j-1)).2 (by omega);have h4:(j-1)*1≤(j-1)*st:=Nat.mul_le_mul_left _ aBL;omega
     have h5:j*(Wn+1)≤4000*4001:=aMa h3 (by omega);omega)
    have HTx:=aLa (show ∀c∈aO bs Wn st J,c.t.length≤9223372036854775807 from fun c hc=>by
     have:=(qY hW4 hH4 J (fun i hi=>(HJ.out i).2 hi) c hc).2;omega)
    have k1:=(w21.bl hb3).all3;clear hJ HE0 HE HPe c1 c2 hWH;go_wp2_with fail;go_loopw [7,8] (fun s7 s8 wr=>∃j:Nat,j≤J∧s8=.int .i64 ((j*st:Nat):Int)∧Bl w3 wr∧Hid (wr.ownsRow w3.heap.size 161 6 s7 (aO bs Wn st j).length (aU (aO bs Wn st j)))) (fun _ s8 _=>10000-(intOf s8).toNat);case atStart=>exact ⟨0,Nat.zero_le _,by rw[Nat.zero_mul];rfl,Bl.refl _,aLa (World.ownsRow_nil _ _ _ 6)⟩
    case round=>
     rename World=>wr;clear k1;obtain ⟨j,hj,rfl,hbr,cA⟩:=hrel;have k1:=(w21.bl (hb3.trans hbr)).all3;obtain ⟨y,hy⟩:=aLt (j*st);have HY:=aLa hy;have hjJ:=HJ.out j;rw[←hy] at hjJ ⊢;by_cases hlt:y<Hn
     ·have hyi:(y:Int)<(Hn:Int):=(by omega);have hj1:=hjJ.1 hlt;have hl:=LC.out j hj;have HC:=aLa (show aO bs Wn st (j+1)=aO bs Wn st j++iQ bs Wn y by rw[hy];rfl);rw[←hy] at hl;obtain ⟨cs,hcs⟩:=aLt (aO bs Wn st j);rw[←hcs] at cA HC hl;obtain ⟨rs,hrs⟩:=aLt (iQ bs Wn y);have xC:=fun wx hx=>NY.out y hlt wx hx;rw[←hrs] at HC hl xC;have aIV:=aLa xC;clear hcs hrs xC hjJ hy;go_wp2_with fail;refine (aIV.out _ (hb3.trans hbr)).mono ?_;rintro e w5 ⟨R,d,rfl,hr,hb5⟩;have HRd:=aLa hr;have HOw:=aLa (fX cA.out hb5);have aF0:=hbr.trans hb5;clear hr aIV;go_wp2_with (at_builtin;refine aQ (w1:=w3) rfl (.tmp 35) (.tmp 36) 158 rfl 161 (.agg #[.int .i64 0,.string ⟨#[]⟩,.int .i64 0,.int .i64 0,.int .i64 0,.int .i64 0]) 6 56 Tryz.underlying158 zH rfl (by omega) w3.heap.size _ cs.length (aU cs) rfl aF0 (Nat.le_refl _) aF0.le HOw.out R rs.length d (aU rs) rfl HRd.out (NI rs) (by unfold maxLen;omega) (by omega) ?_;intro v' w8 cF hb8 hg8;have UH:=aLa cF);have HO8:=aLa (show w8.ownsRow w3.heap.size 161 6 v' (aO bs Wn st (j+1)).length (aU (aO bs Wn st (j+1))) by
       rw[HC.out,mS,aLy];exact UH.out)
      have HB8:=aLa hb8;clear cF hb8 hg8 UH;go_wp2_with fail;have hy:=HY.out;have hy2:(j+1)*st=y+st:=(by rw[Nat.add_mul,←hy,Nat.one_mul]);exact ⟨⟨j+1,hj1,by rw[hy2];go_num,HB8.out,HO8⟩,by simp[intOf]<;>omega⟩
     ·have hyi:¬(y:Int)<(Hn:Int):=(by omega);obtain rfl:j=J:=by
       have:¬j<J:=fun h=>hlt (hjJ.2 h);omega
      obtain ⟨R,d,rfl,hrd⟩:=cU cA.out;have hl:=LC.out j hj;have hvo:=aA0 R d (aO bs Wn st j) wr hrd (by omega) HTx.out;have HVo:=aLa hvo;clear hvo hrd cA;go_wp2_with fail;refine HVo.out.mono ?_;rintro e w9 hv;rcases hv with ⟨h1,rfl,hb⟩|⟨h1,R3,c3,hin,rfl,hr,hb⟩
      ·have HV:=aLa (aEc.out _ w9 (Or.inl ⟨h1,rfl,(HW3.out.trans hbr).trans hb⟩));clear h1 hb HVo;go_wp2_with fail;exact aL0 (v:=.tuple #[.slice none 0 0,.int .i64 (dW (aO bs Wn st j))]) (by simp[results,Tryz.results141,go_sem]) rfl HV.out
      ·have HV:=aLa (aEc.out _ w9 (Or.inr ⟨h1,R3,c3,hin,rfl,hr,(HW3.out.trans hbr).trans hb⟩));obtain ⟨q,hq⟩:=aLt ((cS (aO bs Wn st j)).length);rw[←hq] at HV ⊢;clear h1 hb HVo hr hq;go_wp2_with fail;exact aL0 (v:=.tuple #[.slice R3 q c3,.int .i64 0]) (by simp[results,Tryz.results141,go_sem]) rfl HV.out
end Go.Proofs.YtllefinciimffaaGreatDoor
namespace Go.Proofs.YtllefinciimffaaGreatDoor
open Go.RowKit
def cK : List (List Nat) → List Nat
 |[]=>[]
 |[b]=>b
 |b :: b' :: bs=>b++1 :: cK (b' :: bs)
def GoodB (b:List Nat):Prop:=b.length=9∧(∀r∈b,r=1∨r=3)∧1∈b∧3∈b
theorem KA : ∀ ks : List Nat, K8 ks = cK (ks.map pC)
 |[]=>rfl
 |[k]=>rfl
 |k :: k' :: ks=>by
  show pC k++1 :: K8 (k' :: ks)=pC k++1 :: cK ((k' :: ks).map pC);rw[KA (k' :: ks)]
theorem qZ (b:List Nat) {bs:List (List Nat)} (h:bs≠[]):cK (b :: bs)=b++1 :: cK bs:=by
 cases bs with
 |nil=>exact absurd rfl h
 |cons b' bs=>rfl
theorem p6 : ∀ {bs : List (List Nat)}, bs ≠ [] → (∀ b ∈ bs, b.length = 9) → (cK bs).length + 1 = 10 * bs.length
 |[],h,_=>absurd rfl h
 |[b],_,h=>by
  show b.length+1=10;rw[h b (aLQ.2 rfl)]
 |b :: b' :: bs,_,h=>by
  have h1:=h b (List.mem_cons_self ..);have ih:=p6 (bs:=b' :: bs) (by simp) fun x hx=>h x (List.mem_cons_of_mem _ hx);show (b++1 :: cK (b' :: bs)).length+1=_;rw[aLy,aLB,h1,ih];simp only[aLB];omega
theorem tX : ∀ {bs : List (List Nat)}, (∀ b ∈ bs, GoodB b) → ∀ r ∈ cK bs, r = 1 ∨ r = 3
 |[],_,r,h=>by cases h
 |[b],hb,r,h=>(hb b (aLQ.2 rfl)).2.1 r h
 |b :: b' :: bs,hb,r,h=>by
  rcases aLM.1 h with h|h
  ·exact (hb b (List.mem_cons_self ..)).2.1 r h
  ·rcases aLN.1 h with rfl|h
   ·exact .inl rfl
   ·exact tX (fun x hx=>hb x (List.mem_cons_of_mem _ hx)) r h
theorem vF : ∀ {bs : List (List Nat)} (j : Nat), (∀ b ∈ bs, b.length = 9) → j < bs.length → (cK bs).drop (10 * j) = cK (bs.drop j)
 |[],_,_,h=>by simp at h
 |_ :: _,0,_,_=>rfl
 |[b],j+1,_,h=>by simp at h
 |b :: b' :: bs,j+1,hb,h=>by
  have h1:=hb b (List.mem_cons_self ..);have hl:(b++[1]).length=10:=(by rw[aLy,h1];rfl);show (b++1 :: cK (b' :: bs)).drop (10*(j+1))=cK ((b' :: bs).drop j);rw[show b++1 :: cK (b' :: bs)=(b++[1])++cK (b' :: bs) by simp,show 10*(j+1)=10+10*j by omega,←List.drop_drop,List.drop_left' hl];exact vF j (fun x hx=>hb x (List.mem_cons_of_mem _ hx)) (by simp only[aLB] at h ⊢;omega)
theorem DV : ∀ {bs : List (List Nat)} (m : Nat), (∀ b ∈ bs, b.length = 9) → 1 ≤ m → m ≤ bs.length → ∀ rest, (cK bs ++ rest).take (10 * m - 1) = cK (bs.take m)
 |[],_,_,h,h',_=>by simp at h';omega
 |[b],m,hb,h,h',rest=>by
  have h1:=hb b (aLQ.2 rfl);obtain rfl:m=1:=(by simp at h';omega);show (b++rest).take 9=b;exact aL2 h1
 |b :: b' :: bs,m,hb,h,h',rest=>by
  have h1:=hb b (List.mem_cons_self ..);by_cases hm:m=1
  ·subst hm;show ((b++1 :: cK (b' :: bs))++rest).take 9=b;rw[aLL];exact aL2 h1
  ·obtain ⟨m',rfl⟩:∃m',m=m'+1:=⟨m-1,by omega⟩;have hl:(b++[1]).length=10:=(by rw[aLy,h1];rfl);have ih:=DV (bs:=b' :: bs) m' (fun x hx=>hb x (List.mem_cons_of_mem _ hx)) (by omega) (by simp only[aLB] at h' ⊢;omega) rest;show ((b++1 :: cK (b' :: bs))++rest).take (10*(m'+1)-1)=cK (b :: (b' :: bs).take m');rw[qZ b (by cases m' with|zero=>omega|succ q=>simp)];rw[show (b++1 :: cK (b' :: bs))++rest=(b++[1])++(cK (b' :: bs)++rest) by simp,show 10*(m'+1)-1=(b++[1]).length+(10*m'-1) by rw[hl];omega,List.take_length_add_append,ih];simp
theorem aBk {bs:List (List Nat)} (hb:∀b∈bs,b.length=9) {j:Nat} {b:List Nat} (hj:bs[j]? = some b):((cK bs).drop (10*j)).take 9=b∧(j+1<bs.length→(cK bs)[10*j+9]? = some 1):=by
 have hlt:=(aLw.1 hj).1;have hbl:=hb b (List.mem_of_getElem? hj);rw[vF j hb hlt];have hd:bs.drop j=b :: bs.drop (j+1):=by
  rw[aL7 hlt]
  congr 1
  rw[aLv hlt] at hj;exact aLZ hj
 constructor
 ·rw[hd];by_cases hn:bs.drop (j+1)=[]
  ·rw[hn];exact aL6 (by show b.length≤9;omega)
  ·rw[qZ b hn];exact aL2 hbl
 ·intro h2;have hn:bs.drop (j+1)≠[]:=by
   intro e;have:=congrArg List.length e;rw[aLJ] at this;simp at this;omega
  have h3:((cK bs).drop (10*j))[9]? = some 1:=by
   rw[vF j hb hlt,hd,qZ b hn,aLD (by omega),hbl];rfl
  rwa [aLI] at h3
theorem DZ : ∀ (r : List Int) (z : Int), r.foldl min z ≤ z ∧ (∀ x ∈ r, r.foldl min z ≤ x) ∧ (r.foldl min z = z ∨ r.foldl min z ∈ r)
 |[],z=>⟨Int.le_refl _,fun x h=>(by cases h),.inl rfl⟩
 |a :: r,z=>by
  obtain ⟨h1,h2,h3⟩:=DZ r (min z a);show r.foldl min (min z a)≤z∧_;refine ⟨by omega,fun x hx => ?_,?_⟩
  ·rcases aLN.1 hx with rfl|hx
   ·show r.foldl min (min z x)≤x;omega
   ·exact h2 x hx
  ·show r.foldl min (min z a)=z∨r.foldl min (min z a)∈a :: r;rcases h3 with h3|h3
   ·by_cases hza:z≤a
    ·left;rw[h3];omega
    ·right;rw[h3,show min z a=a by omega];exact List.mem_cons_self ..
   ·exact .inr (List.mem_cons_of_mem _ h3)
theorem D0 : ∀ (r : List Int) (z : Int), z ≤ r.foldl max z ∧ (∀ x ∈ r, x ≤ r.foldl max z) ∧ (r.foldl max z = z ∨ r.foldl max z ∈ r)
 |[],z=>⟨Int.le_refl _,fun x h=>(by cases h),.inl rfl⟩
 |a :: r,z=>by
  obtain ⟨h1,h2,h3⟩:=D0 r (max z a);show z≤r.foldl max (max z a)∧_;refine ⟨by omega,fun x hx => ?_,?_⟩
  ·rcases aLN.1 hx with rfl|hx
   ·show x≤r.foldl max (max z x);omega
   ·exact h2 x hx
  ·show r.foldl max (max z a)=z∨r.foldl max (max z a)∈a :: r;rcases h3 with h3|h3
   ·by_cases hza:a≤z
    ·left;rw[h3];omega
    ·right;rw[h3,show max z a=a by omega];exact List.mem_cons_self ..
   ·exact .inr (List.mem_cons_of_mem _ h3)
theorem aBl {zs:List Int} {a b:Int} (hab:a≤b) (h:∀z∈zs,z=a∨z=b) (ha:a∈zs):aB7 zs=a:=by
 cases zs with
 |nil=>cases ha
 |cons z r=>
  obtain ⟨h1,h2,h3⟩:=DZ r z;show r.foldl min z=a;have hle:r.foldl min z≤a:=by
   rcases aLN.1 ha with rfl|ha
   ·exact h1
   ·exact h2 a ha
  have hge:a≤r.foldl min z:=by
   have:r.foldl min z∈z :: r:=by
    rcases h3 with h3|h3
    ·rw[h3];exact List.mem_cons_self ..
    ·exact List.mem_cons_of_mem _ h3
   rcases h _ this with h|h<;>omega
  omega
theorem aBm {zs:List Int} {a b:Int} (hab:a≤b) (h:∀z∈zs,z=a∨z=b) (hb:b∈zs):aB8 zs=b:=by
 cases zs with
 |nil=>cases hb
 |cons z r=>
  obtain ⟨h1,h2,h3⟩:=D0 r z;show r.foldl max z=b;have hge:b≤r.foldl max z:=by
   rcases aLN.1 hb with rfl|hb
   ·exact h1
   ·exact h2 b hb
  have hle:r.foldl max z≤b:=by
   have:r.foldl max z∈z :: r:=by
    rcases h3 with h3|h3
    ·rw[h3];exact List.mem_cons_self ..
    ·exact List.mem_cons_of_mem _ h3
   rcases h _ this with h|h<;>omega
  omega
def dP (u:Nat) (rs:List Nat):List Int:=jM (xA u rs)
theorem fP (u:Nat) (rs:List Nat):(dP u rs).length=rs.length:=by unfold dP xA;rw[pZ,aLz]
theorem GA {u:Nat} {rs:List Nat} {i r:Nat} (h:rs[i]? = some r):(dP u rs)[i]? = some ((r*u:Nat):Int):=by
 unfold dP xA jM;rw[aLG,aLG,h];rfl
theorem p7 {u:Nat} {rs:List Nat} {z:Int}:z∈dP u rs↔∃r∈rs,z=((r*u:Nat):Int):=by
 unfold dP xA jM;rw[aMg,aMf];constructor
 ·rintro ⟨r,h,rfl⟩;exact ⟨r,h,rfl⟩
 ·rintro ⟨r,h,rfl⟩;exact ⟨r,h,rfl⟩
theorem D1 (u m:Nat) (rs:List Nat):(dP u rs).take m=dP u (rs.take m):=by
 unfold dP xA jM;rw[←List.map_take,←List.map_take]
theorem TO (u m:Nat) (rs:List Nat):(dP u rs).drop m=dP u (rs.drop m):=by
 unfold dP xA jM;rw[←List.map_drop,←List.map_drop]
theorem KB (a b:List Nat):jM (a++b)=jM a++jM b:=by unfold jM;rw[aLS]
theorem YE {zs:List Int} (h:∀z∈zs,1≤z∧z≤4000):K9 zs zs.length=true:=by
 unfold K9;rw[aLC];exact aLO.2 fun z hz=>aLX (h z hz)
theorem PQ {zs:List Int} {kind:Int} (hk:kind=1∨kind=2) (hl:aCb zs.length kind=true) (h:∀z∈zs,1≤z∧z≤4000):bT zs kind=0:=by
 unfold bT;rw[if_neg (by omega),if_neg (by rw[hl];decide),if_neg (by rw[YE h];decide)]
theorem AF {zs:List Int} {kind:Int} (h:bT zs kind=0):uM zs kind=aI 0 ((List.range zs.length).map (gH zs kind (dE zs zs.length))):=by
 unfold uM;rw[if_pos h,pY]
theorem aCi {zs:List Int} {kind:Int} {s:Nat} {rs:List Nat} (hl:rs.length=zs.length) (h:∀i r,rs[i]? = some r→gH zs kind s i=r):(List.range zs.length).map (gH zs kind s)=rs:=by
 apply List.ext_getElem?;intro i;by_cases hi:i<zs.length
 ·obtain ⟨r,hr⟩:∃r,rs[i]? = some r:=⟨_,aLv (by omega)⟩;rw[aLG,aMd hi,hr];exact congrArg some (h i r hr)
 ·rw[aL5 (by rw[aLz,aMe];omega),aL5 (by omega)]
theorem aDt:aCb 59 1=true:=by decide
theorem YF {m:Nat} (h:3≤m):aCb (10*m-1) 2=true:=by
 unfold aCb;simp;omega
theorem aBn {bs:List (List Nat)} {o:Nat} (ho:1≤o) (ho8:o≤8) (hb:∀b∈bs,GoodB b) (h3:3≤bs.length) :
 bT (dP o (cK bs)) 2=0∧uM (dP o (cK bs)) 2=aI 0 (cK bs):=by
 have hne:bs≠[]:=(by intro e;rw[e] at h3;simp at h3);have hb9:∀b∈bs,b.length=9:=fun b h=>(hb b h).1;have cL:=p6 hne hb9;have hok:∀z∈dP o (cK bs),1≤z∧z≤4000:=by
  intro z hz;obtain ⟨r,hr,rfl⟩:=p7.1 hz;rcases tX hb r hr with rfl|rfl<;>omega
 have he:bT (dP o (cK bs)) 2=0:=PQ (.inr rfl) (by rw[fP,show (cK bs).length=10*bs.length-1 by omega];exact YF h3) hok;refine ⟨he,?_⟩;rw[AF he,aCi (fP o (cK bs)).symm];intro i r hi;have hil:=(aLw.1 hi).1;obtain ⟨j,t,hj,ht⟩:∃j t,i=10*j+t∧t<10:=⟨i / 10,i % 10,by omega,by omega⟩;have hjl:j<bs.length:=(by omega);obtain ⟨b,hbj⟩:∃b,bs[j]? = some b:=⟨_,aLv hjl⟩;obtain ⟨hB1,hB2⟩:=aBk hb9 hbj;have AX:=hb b (List.mem_of_getElem? hbj);unfold gH;rw[if_neg (by decide)];by_cases h9:t=9
 ·rw[if_neg (by omega)];have:=hB2 (by omega);rw[show 10*j+9=i by omega,hi] at this;exact (aLZ this).symm
 ·have hbt:b[t]? = some r:=by
   rw[←hB1,aLH (by omega),aLI,←hj];exact hi
  have GN:dY (dP o (cK bs)) i=dP o b:=by
   unfold dY;rw[show i / 10*10=10*j by omega,TO,D1,hB1]
  have hz:(dP o (cK bs)).getD i 0=((r*o:Nat):Int):=(by rw[aLx,GA hi];rfl);have hm1:aB7 (dP o b)=(o:Int):=aBl (a:=(o:Int)) (b:=((3*o:Nat):Int)) (by omega) (fun z hz=>by
   obtain ⟨q,hq,rfl⟩:=p7.1 hz;rcases AX.2.1 q hq with rfl|rfl
   ·left;omega
   ·right;rfl) (p7.2 ⟨1,AX.2.2.1,by omega⟩)
  have hm2:aB8 (dP o b)=((3*o:Nat):Int):=aBm (a:=(o:Int)) (b:=((3*o:Nat):Int)) (by omega) (fun z hz=>by
   obtain ⟨q,hq,rfl⟩:=p7.1 hz;rcases AX.2.1 q hq with rfl|rfl
   ·left;omega
   ·right;rfl) (p7.2 ⟨3,AX.2.2.2,rfl⟩)
  have hw:FH ((dP o (cK bs)).getD i 0) (dY (dP o (cK bs)) i)=decide (r=3):=by
   rw[GN,hz];unfold FH;rw[hm1,hm2,decide_eq_decide];rcases AX.2.1 r (List.mem_of_getElem? hbt) with rfl|rfl<;>omega
  rw[hw];rcases AX.2.1 r (List.mem_of_getElem? hbt) with rfl|rfl
  ·rw[if_neg (by simp)]
  ·rw[if_pos ⟨by omega,by decide⟩]
theorem PR {l : List Nat} (h : ∀ n ∈ l, 1 ≤ n ∧ n ≤ 4000) : ∀ k, k ≤ l.length → dE (jM l) k = (l.take k).sum
 |0,_=>rfl
 |k+1,hk=>by
  obtain ⟨a,ha⟩:∃a,l[k]? = some a:=⟨_,aLv (by omega)⟩;have hz:(jM l)[k]? = some (a:Int):=(by unfold jM;rw[aLG,ha];rfl);have h1:=h a (List.mem_of_getElem? ha);rw[mM hz,jI ha,PR h k (by omega)];unfold WV;omega
theorem aBo (u:Nat) (l:List Nat):(xA u l).sum=l.sum*u:=by
 unfold xA;induction l with
 |nil=>simp
 |cons a l ih=>rw[List.map_cons,List.sum_cons,ih,List.sum_cons,Nat.add_mul]
theorem YG {rs:List Nat} {u:Nat} (hu:1≤u) (hu8:u≤8) (hl:rs.length=59) (hr:∀r∈rs,1≤r∧r≤4) (hs:rs.sum=95) :
 bT (dP u rs) 1=0∧uM (dP u rs) 1=aI 0 rs:=by
 have hok:∀n∈xA u rs,1≤n∧n≤4000:=by
  intro n hn;obtain ⟨r,hr',rfl⟩:=aMf.1 hn;have h1:=hr r hr';have h2:1*1≤r*u:=aMa h1.1 hu;have h3:r*u≤4*8:=aMa h1.2 hu8;omega
 have aFm:∀z∈dP u rs,1≤z∧z≤4000:=by
  intro z hz;obtain ⟨n,hn,rfl⟩:=aMf.1 hz;have:=hok n hn;omega
 have he:bT (dP u rs) 1=0:=PQ (.inl rfl) (by rw[fP,hl];exact aDt) aFm;refine ⟨he,?_⟩;have hcs:dE (dP u rs) (dP u rs).length=95*u:=by
  rw[fP];have hwl:(xA u rs).length=rs.length:=aLz ..;have h:=PR hok rs.length (by omega);rw[aL6 (by omega),aBo,hs] at h;exact h
 rw[AF he,hcs,aCi (fP u rs).symm];intro i r hi;have h1:=hr r (List.mem_of_getElem? hi);unfold gH;rw[if_pos rfl,aLx,GA hi];show (min 4 (max 1 (oN (((r*u:Nat):Int)*95) ((95*u:Nat):Int)))).toNat=r;have hrd:oN (((r*u:Nat):Int)*95) ((95*u:Nat):Int)=(r:Int):=by
  unfold oN;have e1:((95*u:Nat):Int)*(2*(r:Int)+1)=2*(((r*u:Nat):Int)*95)+((95*u:Nat):Int):=by
   rw[Int.mul_add,Int.mul_one,aL9,aL9,Int.mul_assoc,Int.mul_left_comm (u:Int) 2 (r:Int),Int.mul_comm (u:Int) (r:Int)];obtain ⟨p,hp⟩:=aLt ((r:Int)*(u:Int));rw[←hp];omega
  rw[←e1,Int.mul_comm 2 ((95*u:Nat):Int),Int.mul_ediv_mul_of_pos _ _ (by omega)];omega
 rw[hrd];omega
theorem KC:∀d<10,((aK 76 d)[0]? = some 48∧(aK 76 d)[6]? = some 49)∧((aK 71 d)[0]? = some 48∧(aK 71 d)[6]? = some 49)∧((aK 82 d)[0]? = some 49∧(aK 82 d)[6]? = some 48):=by decide +kernel
def ShapeE (m:List UInt8):Prop:=m.take 3=wX∧m[3]? = some 48∧m[9]? = some 49
theorem D2 {m d:List UInt8} (h:jV m=some d):jA m=true∧∃ps,dI m 12=some ps:=by
 unfold jV at h;by_cases hh:jA m=true
 ·rw[if_pos hh] at h;cases hp:dI m 12 with
  |none=>rw[hp] at h;cases h
  |some ps=>exact ⟨hh,ps,rfl⟩
 ·rw[if_neg hh] at h;cases h
theorem vG {m:List UInt8} (h:jA m=true):m.length=95∧m.take 3=wX∧m.drop 92=wX:=by
 unfold jA at h;simp only[aLV,decide_eq_true_eq] at h;exact ⟨h.1,h.2.1,h.2.2.2⟩
theorem aBp {m d:List UInt8} (h:jV m=some d):ShapeE m:=by
 obtain ⟨hh,ps,hp⟩:=D2 h;obtain ⟨-,h3,-⟩:=vG hh;have hl:=jB hp;obtain ⟨p,hp0⟩:∃p,ps[0]? = some p:=⟨_,aLv (by omega)⟩;obtain ⟨k,n⟩:=p;obtain ⟨d,hd,hg,-,-,hk⟩:=uT (mD hp 0 _ hp0);have hc:=KC d hd;have e:∀j,j<7→(gAt m 0)[j]? = m[3+j]?:=fun j hj=>by
  unfold gAt;rw[aLH hj,aLI];rfl
 have e0:=e 0 (by decide);have e6:=e 6 (by decide);rw[hg] at e0 e6;rcases hk (by decide) with rfl|rfl
 ·exact ⟨h3,e0.symm.trans hc.1.1,e6.symm.trans hc.1.2⟩
 ·exact ⟨h3,e0.symm.trans hc.2.1.1,e6.symm.trans hc.2.1.2⟩
theorem TP {m d:List UInt8} (h:jV m.reverse=some d):ShapeE m:=by
 obtain ⟨hh,ps,hp⟩:=D2 h;obtain ⟨h95,-,h9⟩:=vG hh;rw[aL3] at h95;have h3:m.take 3=wX:=by
  rw[List.drop_reverse,h95] at h9;have:=congrArg List.reverse h9;rw[List.reverse_reverse] at this;exact this
 have hl:=jB hp;obtain ⟨p,hp0⟩:∃p,ps[11]? = some p:=⟨_,aLv (by omega)⟩;obtain ⟨k,n⟩:=p;obtain ⟨d,hd,hg,-,hk,-⟩:=uT (mD hp 11 _ hp0);obtain rfl:=hk (by decide);have hc:=(KC d hd).2.2;have e:∀j,j<7→(gAt m.reverse 11)[j]? = m[9-j]?:=fun j hj=>by
  unfold gAt;rw[aLH hj,aLI,show wY 11=85 from rfl,List.getElem?_reverse (by omega),h95]
  congr 1
  omega
 have e0:=e 0 (by decide);have e6:=e 6 (by decide);rw[hg] at e0 e6;exact ⟨h3,e6.symm.trans hc.2,e0.symm.trans hc.1⟩
theorem KD {m:List UInt8} (h:(aN jL m).2=0):ShapeE m:=by
 have key:∀s:List UInt8,(jL s).2=0→∃d,jV s=some d:=fun s hs=>by
  cases hd:jV s with
  |none=>rw[jG hd] at hs;cases hs
  |some d=>exact ⟨d,rfl⟩
 unfold aN at h;split at h
 ·obtain ⟨d,hd⟩:=key _ h;exact TP hd
 ·obtain ⟨d,hd⟩:=key _ h;exact aBp hd
theorem YH {g:Nat→Nat} (h1:∀i,1≤g i) (hs:ShapeE (aI 0 ((List.range 59).map g))):g 0=1∧g 1=1∧g 2=1∧¬ ∀i,i≤9→g i=1:=by
 obtain ⟨a,b,c⟩:=hs;have hr:(List.range 59).map g=g 0 :: g 1 :: g 2 :: g 3 :: g 4 :: g 5 :: g 6 :: g 7 :: g 8 :: g 9 :: ((List.range' 10 49).map g):=rfl;obtain ⟨m,hm⟩:=aLt (aI 0 ((List.range 59).map g));rw[←hm] at a b c;have a1:m[1]? = some 48:=(by have:=congrArg (·[1]?) a;simpa [wX] using this);have a2:m[2]? = some 49:=(by have:=congrArg (·[2]?) a;simpa [wX] using this);rw[hr] at hm;have g0:g 0=1:=by
  have:=h1 0;rcases Nat.lt_or_ge 1 (g 0) with h|h
  ·obtain ⟨k,hk⟩:∃k,g 0=k+2:=⟨g 0-2,by omega⟩;rw[hk] at hm;rw[hm] at a1;have:(some 49:Option UInt8)=some 48:=a1;cases this
  ·omega
 rw[g0] at hm;have g1:g 1=1:=by
  have:=h1 1;rcases Nat.lt_or_ge 1 (g 1) with h|h
  ·obtain ⟨k,hk⟩:∃k,g 1=k+2:=⟨g 1-2,by omega⟩;rw[hk] at hm;rw[hm] at a2;have:(some 48:Option UInt8)=some 49:=a2;cases this
  ·omega
 rw[g1] at hm;have g2:g 2=1:=by
  have:=h1 2;rcases Nat.lt_or_ge 1 (g 2) with h|h
  ·obtain ⟨k,hk⟩:∃k,g 2=k+2:=⟨g 2-2,by omega⟩;rw[hk] at hm;rw[hm] at b;have:(some 49:Option UInt8)=some 48:=b;cases this
  ·omega
 refine ⟨g0,g1,g2,fun gA => ?_⟩;rw[g2,gA 3 (by decide),gA 4 (by decide),gA 5 (by decide),gA 6 (by decide),gA 7 (by decide),gA 8 (by decide),gA 9 (by decide)] at hm;rw[hm] at c;have:(some 48:Option UInt8)=some 49:=c;cases this
theorem TQ {a b:Int} (s:Nat) (h:a≤b):oN a s≤oN b s:=by
 unfold oN;rcases Nat.eq_zero_or_pos s with rfl|hs
 ·simp
 ·exact Int.ediv_le_ediv (by omega) (by omega)
theorem aEK {zs:List Int} {w:Nat} (hl:zs.length=59) (hw:w<3) (h:∀i,i≤9→zs.getD i 0≤zs.getD w 0):A4 zs 1=none:=by
 cases ht:A4 zs 1 with
 |none=>rfl
 |some t=>
  exfalso;have hu:=aBg ht;unfold A4 at ht;rw[if_pos hu] at ht;by_cases h0:(rdK 1 (uM zs 1)).2=0
  ·have h0':(aN jL (uM zs 1)).2=0:=h0;have hsh:=KD h0';rw[AF hu,hl] at hsh;have hg:=fun i=>(tM zs 1 (dE zs 59) i).1;obtain ⟨g0,g1,g2,gn⟩:=YH hg hsh;have gw:gH zs 1 (dE zs 59) w=1:=by
    have:w=0∨w=1∨w=2:=(by omega);rcases this with rfl|rfl|rfl
    ·exact g0
    ·exact g1
    ·exact g2
   refine gn fun i hi => ?_;have h1:=hg i;have hm:=TQ (dE zs 59) (show zs.getD i 0*95≤zs.getD w 0*95 by have:=h i hi;omega);unfold gH at gw h1 ⊢;rw[if_pos rfl] at gw h1 ⊢;omega
  ·rw[if_neg h0] at ht;cases ht
theorem YI:∀k<44,GoodB (pC k):=by
 have h:∀k<44,(pC k).length=9∧((pC k).all fun r=>r==1||r==3)=true∧(pC k).contains 1=true∧(pC k).contains 3=true:=(by decide +kernel);intro k hk;obtain ⟨h1,h2,h3,h4⟩:=h k hk;exact ⟨h1,fun r hr=>by simpa using aLO.1 h2 r hr,by simpa using h3,by simpa using h4⟩
theorem YJ {ks:List Nat} (hne:ks≠[]) (hk:∀k∈ks,k<44):BN (fS ks)=some (txt ks):=by
 rw[zT (vA hk),pL hne hk];rfl
theorem YK:∀k<44,dG.getD k 0=42→k=43:=by decide +kernel
theorem aBq {ks:List Nat} (hne:ks≠[]) (hk:∀k∈ks,k<44):(fS ks).length+1=16*ks.length:=((iV _ _).1 (pL hne hk)).1
theorem aDu {k:Nat} {ks:List Nat} (hk:∀x∈ks++[k],x<44) (h:k≠43):nP (fS (ks++[k]))=([],2):=by
 refine oI (YJ (by simp) hk) ?_;cases hs:DN (txt (ks++[k])) with
 |false=>rfl
 |true=>exfalso;unfold DN at hs;simp only[aLV,beq_iff_eq] at hs;have h2:=hs.2.2.2.1;rw[XM,aLy,aLx,aLD (by simp)] at h2;rw[show (txt ks).length+[dG.getD k 0].length-1-(txt ks).length=0 by simp] at h2;exact h (YK k (hk k (by simp)) h2)
theorem GB {ks:List Nat} (hne:ks≠[]) (hk:∀k∈ks,k<44):nP (fS (43 :: ks)).reverse=([],2):=by
 have hs:fS (43 :: ks)=jQ 43++48 :: fS ks:=by
  cases ks with
  |nil=>exact absurd rfl hne
  |cons k ks=>rfl
 rcases zW (fS (43 :: ks)).reverse with ⟨T,hT1,hT2⟩|⟨-,h⟩
 ·exfalso;have hmd:aM (fS (43 :: ks)).reverse [48,49]=true:=by
   cases hx:aM (fS (43 :: ks)).reverse [48,49] with
   |true=>rfl
   |false=>rw[aBb hx] at hT1;cases hT1
  rw[zT hmd] at hT1;obtain ⟨ls,hls,rfl⟩:=Option.map_eq_some_iff.1 hT1;obtain ⟨hl1,hl2⟩:=(iV _ _).1 hls;have hjl:=aBq hne hk;rw[aL3,hs,aLy,aLB,(dR 43 (by decide)).1] at hl1;have hn:ls.length=ks.length+1:=(by omega);obtain ⟨l,hl⟩:∃l,ls[ks.length]? = some l:=⟨_,aLv (by omega)⟩;obtain ⟨-,hlk,hg⟩:=(vS _ _ _).1 (hl2 ks.length l hl);have hd:(fS (43 :: ks)).reverse.drop (16*ks.length)=jQ 25:=by
   rw[hs,List.reverse_append,List.reverse_cons,XW];exact List.drop_left' (by rw[aLy,aL3];exact hjl)
  rw[hd,aL6 (by rw[(dR 25 (by decide)).1];exact Nat.le_refl _)] at hg;obtain rfl:=OE l hlk 25 (by decide) hg.symm;unfold DN at hT2;simp only[aLV,beq_iff_eq] at hT2;have h2:=hT2.2.2.2.1;rw[M6,hn,aLx] at h2;unfold txt at h2;rw[aLG,show ks.length+1-1=ks.length by omega,hl] at h2;exact absurd h2 (by decide)
 ·exact h
def eR (k:UInt8) (d:Nat):List Nat:=rD (aK k d)
theorem aCj:∀d<10,(aK 76 d=aI 1 (eR 76 d)∧aK 71 d=aI 1 (eR 71 d)∧aK 82 d=aI 0 (eR 82 d))∧((eR 76 d).length=4∧(eR 71 d).length=4∧(eR 82 d).length=4) ∧
 ((eR 76 d).all fun n=>decide (1≤n∧n≤4))=true∧((eR 71 d).all fun n=>decide (1≤n∧n≤4))=true∧((eR 82 d).all fun n=>decide (1≤n∧n≤4))=true:=by decide +kernel
def ZY (ds:List UInt8) (i:Nat):List Nat:=eR (cX ds i) (aS ds i)
theorem GC {ds:List UInt8} (hd:∀i,aS ds i≤9) {i:Nat} (hi:i<6):aI 1 (ZY ds (i+1))=aK (cX ds (i+1)) (aS ds (i+1))∧(ZY ds (i+1)).length=4∧∀r∈ZY ds (i+1),1≤r∧r≤4:=by
 obtain ⟨⟨a1,a2,a3⟩,⟨b1,b2,b3⟩,c1,c2,c3⟩:=aCj (aS ds (i+1)) (by have:=hd (i+1);omega);unfold ZY;rcases IV ds (hd 0) i hi with e|e
 ·rw[e];exact ⟨a1.symm,b1,fun r hr=>aLY (aLO.1 c1 r hr)⟩
 ·rw[e];exact ⟨a2.symm,b2,fun r hr=>aLY (aLO.1 c2 r hr)⟩
theorem AG {ds:List UInt8} (hd:∀i,aS ds i≤9) {i:Nat} (hi:6≤i):aI 0 (ZY ds (i+1))=aK (cX ds (i+1)) (aS ds (i+1))∧(ZY ds (i+1)).length=4∧∀r∈ZY ds (i+1),1≤r∧r≤4:=by
 obtain ⟨⟨a1,a2,a3⟩,⟨b1,b2,b3⟩,c1,c2,c3⟩:=aCj (aS ds (i+1)) (by have:=hd (i+1);omega);unfold ZY;rw[qO ds i hi];exact ⟨a3.symm,b3,fun r hr=>aLY (aLO.1 c3 r hr)⟩
theorem AH : ∀ {rows : List (List Nat)}, (∀ r ∈ rows, r.length = 4) → rows.flatten.length = 4 * rows.length
 |[],_=>rfl
 |r :: rows,h=>by
  rw[List.flatten_cons,aLy,h r (List.mem_cons_self ..),AH (rows:=rows) fun x hx=>h x (List.mem_cons_of_mem _ hx),aLB];omega
theorem sK (p : Nat) : ∀ {rows : List (List Nat)}, (∀ r ∈ rows, r.length = 4) → aI p rows.flatten = (rows.map (aI p)).flatten
 |[],_=>rfl
 |r :: rows,h=>by
  rw[List.flatten_cons,bF,h r (List.mem_cons_self ..),iO (show (p+4) % 2=p % 2 by omega),sK p (rows:=rows) fun x hx=>h x (List.mem_cons_of_mem _ hx)];rfl
def NJ (ds:List UInt8):List (List Nat):=(List.range 6).map fun i=>ZY ds (i+1)
def AI (ds:List UInt8):List (List Nat):=(List.range 6).map fun i=>ZY ds (i+6+1)
def mZ (ds:List UInt8):List Nat:=[1,1,1]++((NJ ds).flatten++([1,1,1,1,1]++((AI ds).flatten++[1,1,1])))
theorem nS (i : Nat) : ∀ rs : List Nat, (aI i rs).length = rs.sum
 |[]=>rfl
 |n :: rs=>by
  show (List.replicate n (bZ i)++aI (i+1) rs).length=_;rw[aLy,aLF,nS (i+1) rs,List.sum_cons]
theorem PS {ds:List UInt8} (hd:∀i,aS ds i≤9):aI 0 (mZ ds)=jU ds∧(mZ ds).length=59∧(∀r∈mZ ds,1≤r∧r≤4)∧(mZ ds).sum=95:=by
 have hL:∀r∈NJ ds,r.length=4:=fun r hr=>by
  obtain ⟨i,hi,rfl⟩:=aMf.1 hr;exact (GC hd (List.mem_range.1 hi)).2.1
 have hH:∀r∈AI ds,r.length=4:=fun r hr=>by
  obtain ⟨i,hi,rfl⟩:=aMf.1 hr;exact (AG hd (by omega)).2.1
 have lL:(NJ ds).flatten.length=24:=(by rw[AH hL];unfold NJ;rw[aLz,aMe]);have lH:(AI ds).flatten.length=24:=(by rw[AH hH];unfold AI;rw[aLz,aMe]);have h1:aI 0 (mZ ds)=jU ds:=by
  unfold mZ;rw[bF,bF,bF,bF,lL,lH];rw[iO (show (0+([1,1,1]:List Nat).length) % 2=1 % 2 from rfl) (NJ ds).flatten,sK 1 hL];rw[iO (show (0+([1,1,1]:List Nat).length+24) % 2=1 % 2 from rfl) [1,1,1,1,1]];rw[iO (show (0+([1,1,1]:List Nat).length+24+([1,1,1,1,1]:List Nat).length) % 2=0 % 2 from rfl) (AI ds).flatten,sK 0 hH];rw[iO (show (0+([1,1,1]:List Nat).length+24+([1,1,1,1,1]:List Nat).length+24) % 2=0 % 2 from rfl) [1,1,1]];have mL:(NJ ds).map (aI 1)=(List.range 6).map fun i=>aK (cX ds (i+1)) (aS ds (i+1)):=by
   unfold NJ;rw[aMg];exact List.map_congr_left fun i hi=>(GC hd (List.mem_range.1 hi)).1
  have mH:(AI ds).map (aI 0)=(List.range 6).map fun i=>aK (cX ds (i+6+1)) (aS ds (i+6+1)):=by
   unfold AI;rw[aMg];exact List.map_congr_left fun i hi=>(AG hd (by omega)).1
  rw[mL,mH,CY];unfold gV;show aI 0 [1,1,1]++([aK (cX ds 1) (aS ds 1),aK (cX ds 2) (aS ds 2),aK (cX ds 3) (aS ds 3),aK (cX ds 4) (aS ds 4),aK (cX ds 5) (aS ds 5),aK (cX ds 6) (aS ds 6)].flatten++(aI 1 [1,1,1,1,1]++([aK (cX ds 7) (aS ds 7),aK (cX ds 8) (aS ds 8),aK (cX ds 9) (aS ds 9),aK (cX ds 10) (aS ds 10),aK (cX ds 11) (aS ds 11),aK (cX ds 12) (aS ds 12)].flatten++aI 0 [1,1,1])))=_;rw[show aI 0 [1,1,1]=wX from rfl,show aI 1 [1,1,1,1,1]=IU from rfl];simp only[List.flatten_cons,List.flatten_nil,aMj,aLL]
 refine ⟨h1,?_,?_,?_⟩
 ·unfold mZ;rw[aLy,aLy,aLy,aLy,lL,lH];rfl
 ·intro r hr;unfold mZ at hr;rcases aLM.1 hr with hr|hr
  ·have:r=1:=(by simpa using hr);omega
  ·rcases aLM.1 hr with hr|hr
   ·obtain ⟨b,hb,hr⟩:=List.mem_flatten.1 hr;obtain ⟨i,hi,rfl⟩:=aMf.1 hb;exact (GC hd (List.mem_range.1 hi)).2.2 r hr
   ·rcases aLM.1 hr with hr|hr
    ·have:r=1:=(by simpa using hr);omega
    ·rcases aLM.1 hr with hr|hr
     ·obtain ⟨b,hb,hr⟩:=List.mem_flatten.1 hr;obtain ⟨i,hi,rfl⟩:=aMf.1 hb;exact (AG hd (by omega)).2.2 r hr
     ·have:r=1:=(by simpa using hr);omega
 ·rw[←nS 0,h1];exact (vG (xJ ds hd).1).1
def EanOk (ds:List UInt8):Prop:=ds.length=13∧aM ds bJ=true∧i8 (ds.take 12)=aS ds 12
theorem aDv {zs a rest:List Int} (hz:zs=a++rest) (hl:a.length=59):A9 zs=A4 a 1:=by
 unfold A9;rw[hz,aLy,if_pos (by omega),aL2 hl]
theorem aDw {ds:List UInt8} (h:EanOk ds) {u:Nat} (hu:1≤u) (hu8:u≤8) (rest:List Int):A9 (dP u (mZ ds)++rest)=some ds∧A9 (dP u (mZ ds).reverse++rest)=some ds:=by
 obtain ⟨h13,hm,hc⟩:=h;have hd:=mB hm;obtain ⟨e1,e2,e3,e4⟩:=PS hd;obtain ⟨r1,r2⟩:=aAG ds h13 hm hc;have key:∀rs:List Nat,rs.length=59→(∀r∈rs,1≤r∧r≤4)→rs.sum=95→FF (aI 0 rs)=(ds,0)→A9 (dP u rs++rest)=some ds:=fun rs q1 q2 q3 q4=>by
  rw[aDv rfl (by rw[fP,q1])];obtain ⟨hu1,hu2⟩:=YG hu hu8 q1 q2 q3;have hr:rdK 1 (uM (dP u rs) 1)=(ds,0):=(by rw[hu2];exact q4);rw[tV hu1 (by rw[hr]),hr]
 refine ⟨key _ e2 e3 e4 (by rw[e1];exact r1),key _ (by rw[aL3];exact e2) (fun r hr=>e3 r (List.mem_reverse.1 hr)) ?_ (by rw[←sG (by omega),e1];exact r2)⟩;rw[←nS 0,←sG (by omega),aL3,nS,e4]
end Go.Proofs.YtllefinciimffaaGreatDoor
