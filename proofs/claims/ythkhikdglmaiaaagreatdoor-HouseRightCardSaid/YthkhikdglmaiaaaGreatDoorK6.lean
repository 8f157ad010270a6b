/- Texts towards the law HouseRight, put together (part 6): an abstract walk and its proof, functions of the program as trees, and plain laws. Conditions: none. -/
import Derived.Test.YthkhikdglmaiaaaGreatDoorK5
set_option linter.unnecessarySimpa false
set_option linter.unusedSimpArgs false
set_option linter.unusedVariables false
set_option maxRecDepth 100000
namespace Go.Proofs.YthkhikdglmaiaaaGreatDoor.X
open Go Go.RowKit Go.Proofs.YthkhikdglmaiaaaGreatDoor.Abs Go.Proofs.YthkhikdglmaiaaaGreatDoor.Bits
set_option linter.unusedVariables false
set_option linter.unnecessarySimpa false
set_option linter.unusedSimpArgs false
set_option maxRecDepth 100000
theorem zyi (o x:Int) (l:List UInt8) (c:Nat) (k:Int) (hk:U16 k) (h:c+1<l.length):chk o x (setW l c k) c=setW l c (fixI k o x):=by
 unfold chk
 rw [zhw l c k h,zzm,show k%65536=k by unfold U16 at hk; omega]
theorem zevb (o x:Int) (l:List UInt8) (c:Nat):chk o x l c=setW l c (fixI (wAt l c) o x):=rfl
theorem zkpb {g:List UInt8} {a:Int} {i:Nat} (ha:U32 a) (hi:i=12\/i=16) (hl:20<=g.length) :
  ∃ k,U16 k/\gNew g a i=setW (setW (setW g i (a / 65536)) (i+2) (a%65536)) 10 k/\(k-wAt g 10-(wAt g i-a / 65536)-(wAt g (i+2)-a%65536))%65535=0/\(wAt g 10<=65534->k<=65534):=by
 have u1:U16 (a / 65536):=by unfold U32 at ha; unfold U16; omega
 have u2:U16 (a%65536):=by unfold U16; omega
 have e1:gch g i (a / 65536)=setW (setW g i (a / 65536)) 10 (fixI (wAt g 10) (wAt g i) (a / 65536)):=by
  unfold gch; rw [zevb,zae _ _ _ _ (by omega) (by omega)]
 have k1:=zn1 (wAt g 10) (wAt g i) (a / 65536)
 have m1:=zn2 (zac g 10) (zac g i) u1
 have l1:=zn3 (zac g 10) (zac g i) u1
 have w2:wAt (gch g i (a / 65536)) (i+2)=wAt g (i+2):=by
  rw [e1,zae _ _ _ _ (by simp <;> omega) (by omega),zae _ _ _ _ (by omega) (by omega)]
 generalize hk1:fixI (wAt g 10) (wAt g i) (a / 65536)=q1 at *
 have m2:=zn2 k1 (zac g (i+2)) u2
 have l2:=zn3 k1 (zac g (i+2)) u2
 refine ⟨fixI q1 (wAt g (i+2)) (a%65536),zn1 _ _ _,?_,by omega,fun h=>l2 (l1 h)⟩
 unfold gNew
 show chk (wAt (gch g i (a / 65536)) (i+2)) (a%65536) (setW (gch g i (a / 65536)) (i+2) (a%65536)) 10=_
 rw [w2,e1,zzn _ 10 (i+2) _ _ (by omega),zyi _ _ _ _ _ k1 (by simp <;> omega)]
theorem zlvb {udp:Bool} {g d:List UInt8} {a p:Int} {i off c:Nat} (ha:U32 a) (hp:U16 p) (hi:i=12\/i=16) (hl:20<=g.length) (ho:off+1<c) (hc:c+1<d.length) :
   ∃ k,U16 k/\dNew udp g d a p i off c=setW (setW d off p) c k/\(udp=true/\wAt d c=0->k=0) /\
    (¬ (udp=true/\wAt d c=0)->(k-wAt d c-(wAt g i-a / 65536)-(wAt g (i+2)-a%65536)-(wAt d off-p))%65535=0/\(udp=true->k≠0)/\(udp=false->wAt d c<=65534->k<=65534)):=by
 have u1:U16 (a / 65536):=by unfold U32 at ha; unfold U16; omega
 have u2:U16 (a%65536):=by unfold U16; omega
 have w2:wAt (gch g i (a / 65536)) (i+2)=wAt g (i+2):=by
   unfold gch; rw [zevb,zae _ _ _ _ (by simp <;> omega) (by omega),zae _ _ _ _ (by omega) (by omega)]
 unfold dNew
 by_cases h0:udp=true/\wAt d c=0
 . rw [if_pos h0]
   refine ⟨0,by unfold U16; omega,?_,fun _=>rfl,fun h=>absurd h0 h⟩
   have:=zjxb (setW d off p) c (by simpa using hc)
   rw [zae _ _ _ _ (by omega) (by omega),h0.2] at this
   exact this.symm
 rw [if_neg h0]
 simp only [w2]
 have k1:=zn1 (wAt d c) (wAt g i) (a / 65536)
 have m1:=zn2 (zac d c) (zac g i) u1
 have l1:=zn3 (zac d c) (zac g i) u1
 rw [zevb (wAt g i) (a / 65536) d c]
 generalize fixI (wAt d c) (wAt g i) (a / 65536)=q1 at *
 rw [zyi _ _ _ _ _ k1 hc]
 have k2:=zn1 q1 (wAt g (i+2)) (a%65536)
 have m2:=zn2 k1 (zac g (i+2)) u2
 have l2:=zn3 k1 (zac g (i+2)) u2
 generalize fixI q1 (wAt g (i+2)) (a%65536)=q2 at *
 have k3:=zn1 q2 (wAt d off) p
 have m3:=zn2 k2 (zac d off) hp
 have l3:=zn3 k2 (zac d off) hp
 have e3:chk (wAt (setW d c q2) off) p (setW (setW d c q2) off p) c=setW (setW d off p) c (fixI q2 (wAt d off) p):=by
   rw [zae _ _ _ _ hc (by omega),zzn _ c off _ _ (by omega),zyi _ _ _ _ _ k2 (by simpa using hc)]
 rw [e3]
 generalize fixI q2 (wAt d off) p=q3 at *
 rw [zhw _ _ _ (by simpa using hc),show q3%65536=q3 by unfold U16 at k3; omega]
 split
 . rename_i h3
   refine ⟨65535,by unfold U16; omega,by rw [zzm],fun h=>absurd h h0,fun _=>⟨by omega,fun _=>by decide,fun h=>by rw [h3.1] at h; cases h⟩⟩
 . rename_i h3
   exact ⟨q3,k3,rfl,fun h=>absurd h h0,fun _=>⟨by omega,fun hu hz=>h3 ⟨hu,hz⟩,fun _ h=>l3 (l2 (l1 h))⟩⟩

theorem zmab (l:List UInt8) (h:1<=(l.getD 0 0).toNat):ws l≠0:=by
 match l,h with
 | [],h=>simp at h
 | [a],h=>have:1<=a.toNat:=h; simp only [ws]; omega
 | a :: b :: r,h=>have:1<=a.toNat:=h; simp only [ws]; omega
theorem zx8 (l k:List UInt8) (i:Nat) (h:i<l.length):(l++k).getD i 0=l.getD i 0:=by
 rw [List.getD_eq_getElem?_getD,List.getElem?_append_left h,List.getD_eq_getElem?_getD]

theorem z43 {A B U V S T k w o1 x1 o2 x2 wo p:Int} (hA:A=U+S) (h0:A%65535=0) (hB:B=V+T) (hV:V=U+(x1-o1)+(x2-o2)) (hT:T=S-wo+p-w+k) (m:(k-w-(o1-x1)-(o2-x2)-(wo-p))%65535=0):B%65535=0:=by
 have:B=A+(k-w-(o1-x1)-(o2-x2)-(wo-p)):=by omega
 omega
theorem sum3 (S w1 x1 w2 x2 w3 x3:Int):S-w1+x1-w2+x2-w3+x3=S+(x3-w3-(w1-x1)-(w2-x2)):=by omega
theorem zixb {S m:Int} (h:S%65535=0) (h2:m%65535=0):(S+m)%65535=0:=by omega
theorem uw6 (f t n:Int):6<=uw f t 6 n:=by unfold uw; omega
theorem uw17 (f t n:Int):17<=uw f t 17 n:=by unfold uw; omega
theorem zi6b {n:Nat} {U:Int} {S:Nat} {k:Int} (h:(n:Int)=U+S) (hu:k<=U) (hk:1<=k):n≠0:=by omega
theorem zx0 {n:Nat} (h:n%65535=0):(n:Int)%65535=0:=by omega
theorem zhy {x:Int} (h:U16 x):x%65536=x:=by unfold U16 at h; omega
theorem z27 {n:Nat} (h:(n:Int)%65535=0):n%65535=0:=by omega
theorem zjob {w v:Int} (t a pr n:Int) (ha:U32 a) (h1:0<=w/\w<=65535) (h2:0<=v/\v<=65535):uw a t pr n=uw (w*65536+v) t pr n+(a / 65536-w)+(a%65536-v):=by
 unfold U32 at ha; unfold uw; omega
theorem zpfb {w v:Int} (f a pr n:Int) (ha:U32 a) (h1:0<=w/\w<=65535) (h2:0<=v/\v<=65535):uw f a pr n=uw f (w*65536+v) pr n+(a / 65536-w)+(a%65536-v):=by
 unfold U32 at ha; unfold uw; omega
set_option maxHeartbeats 4000000 in
/-- A packet with another name: what is read of it. -/
theorem zasb {s : List UInt8} (h : EndOk s) {a p : Int} {i off : Nat} (ha : U32 a) (hp : U16 p) (hi : i = 12 \/ i = 16) (ho : off = 0 \/ off = 2) :
   EndOk (swp s a p i off) /\
   pk (swp s a p i off) = ⟨(pk s).tos, (pk s).id, (pk s).whole, (pk s).more, (pk s).start, (pk s).life, (pk s).proto, if i = 12 then a else (pk s).from', if i = 12 then (pk s).to else a, (pk s).options, dNew (udpB s) (s.take (hn s)) (pk s).data a p i off (cOf s)⟩ /\
   (swp s a p i off).getD 9 0 = s.getD 9 0 /\
   (∃ k, dNew (udpB s) (s.take (hn s)) (pk s).data a p i off (cOf s) = setW (setW (pk s).data off p) (cOf s) k) /\ (swp s a p i off).length = alln s := by
 obtain ⟨l1, l2, l3, l4, l5, l6, l7⟩ := zpd h
 have hip := h.ip
 have hc6 : cOf s = 6 \/ cOf s = 16 := by unfold cOf; split <;> simp
 obtain ⟨kg, ug, eg, mg, _⟩ := zkpb (g := s.take (hn s)) (a := a) (i := i) ha hi (by omega)
 obtain ⟨kd, ud, ed, zd, md⟩ := zlvb (udp := udpB s) (g := s.take (hn s)) (d := (pk s).data) (a := a) (p := p) (i := i) (off := off) (c := cOf s) ha hp hi (by omega) (by omega) l3
 have eswp : swp s a p i off = gNew (s.take (hn s)) a i ++ dNew (udpB s) (s.take (hn s)) (pk s).data a p i off (cOf s) := rfl
 have lg' : (gNew (s.take (hn s)) a i).length = hn s := by rw [zbf, l2]
 have ld' : (dNew (udpB s) (s.take (hn s)) (pk s).data a p i off (cOf s)).length = (pk s).data.length := z5y _ _ _ _ _ _ _ _
 generalize dNew (udpB s) (s.take (hn s)) (pk s).data a p i off (cOf s) = D at *
 generalize gNew (s.take (hn s)) a i = G at *
 generalize swp s a p i off = Z at *
 -- words and bytes of the head
 have wg : ∀ j, j + 1 < hn s -> wAt (s.take (hn s)) j = wAt s j := fun j hj => zmu s j _ hj
 have bg : ∀ j, j < hn s -> (s.take (hn s)).getD j 0 = s.getD j 0 := fun j hj => getD_take s j _ hj
 have gb : ∀ j, j < hn s -> j ≠ 10 -> j ≠ 11 -> (j < i \/ i + 3 < j) -> G.getD j 0 = s.getD j 0 := fun j h1 h2 h3 h4 => by
   rw [eg, zck _ _ _ _ (by simp only [za7]; omega) (by omega) (by omega), zck _ _ _ _ (by simp only [za7]; omega) (by omega) (by omega), zck _ _ _ _ (by omega) (by omega) (by omega), bg j h1]
 have gw : ∀ j, j + 1 < hn s -> (j + 1 < 10 \/ 11 < j) -> (j + 1 < i \/ i + 3 < j) -> wAt G j = wAt s j := fun j h1 h2 h3 => by
   rw [eg, zae _ _ _ _ (by simp only [za7]; omega) (by omega), zae _ _ _ _ (by simp only [za7]; omega) (by omega), zae _ _ _ _ (by omega) (by omega), wg j h1]
 have gi : wAt G i = a / 65536 := by
   rw [eg, zae _ _ _ _ (by simp only [za7]; omega) (by omega), zae _ _ _ _ (by simp only [za7]; omega) (by omega), zhw _ _ _ (by omega)]
   unfold U32 at ha; omega
 have gi2 : wAt G (i + 2) = a % 65536 := by
   rw [eg, zae _ _ _ _ (by simp only [za7]; omega) (by omega), zhw _ _ _ (by simp only [za7]; omega)]
   omega
 have sb : ∀ j, j < hn s -> j ≠ 10 -> j ≠ 11 -> (j < i \/ i + 3 < j) -> (Z).getD j 0 = s.getD j 0 := fun j h1 h2 h3 h4 => by
   rw [eswp, zx8 _ _ _ (by omega), gb j h1 h2 h3 h4]
 have sw : ∀ j, j + 1 < hn s -> (j + 1 < 10 \/ 11 < j) -> (j + 1 < i \/ i + 3 < j) -> wAt (Z) j = wAt s j := fun j h1 h2 h3 => by
   rw [eswp, zcd _ _ _ (by omega), gw j h1 h2 h3]
 have si : wAt (Z) i = a / 65536 := by rw [eswp, zcd _ _ _ (by omega), gi]
 have si2 : wAt (Z) (i + 2) = a % 65536 := by rw [eswp, zcd _ _ _ (by omega), gi2]
 have b0 := sb 0 (by omega) (by omega) (by omega) (by omega)
 have hhn : hn (Z) = hn s := by unfold hn; rw [b0]
 have hal : alln (Z) = alln s := by unfold alln; rw [sw 2 (by omega) (by omega) (by omega)]
 have hlen : (Z).length = alln s := by rw [eswp, List.length_append]; omega
 have ht : (Z).take (hn s) = G := by rw [eswp, List.take_left' lg']
 have hdr : (Z).drop (hn s) = D := by rw [eswp, List.drop_left' lg']
 have hta : (Z).take (alln s) = Z := by rw [<- hlen, List.take_length]
 have hopt : G.drop 20 = (s.take (hn s)).drop 20 := by
   rw [eg, zdk _ _ _ _ (by omega), zdk _ _ _ _ (by omega), zdk _ _ _ _ (by omega)]
 have hl12 : lAt (Z) 12 = if i = 12 then a else (pk s).from' := by
   rcases hi with rfl | rfl
   . rw [if_pos rfl]; unfold lAt; rw [si, si2]; omega
   . rw [if_neg (by decide)]; show _ = lAt s 12; unfold lAt
     rw [sw 12 (by omega) (by omega) (by omega), sw (12 + 2) (by omega) (by omega) (by omega)]
 have hl16 : lAt (Z) 16 = if i = 12 then (pk s).to else a := by
   rcases hi with rfl | rfl
   . rw [if_pos rfl]; show _ = lAt s 16; unfold lAt
     rw [sw 16 (by omega) (by omega) (by omega), sw (16 + 2) (by omega) (by omega) (by omega)]
   . rw [if_neg (by decide)]; unfold lAt; rw [si, si2]; omega
 have hpk : pk (Z) = ⟨(pk s).tos, (pk s).id, (pk s).whole, (pk s).more, (pk s).start, (pk s).life, (pk s).proto, if i = 12 then a else (pk s).from', if i = 12 then (pk s).to else a, (pk s).options, D⟩ := by
   unfold pk
   rw [hhn, hal, ht, hta, hdr, hopt, hl12, hl16, sb 1 (by omega) (by omega) (by omega) (by omega), sb 8 (by omega) (by omega) (by omega) (by omega), sb 9 (by omega) (by omega) (by omega) (by omega), sw 4 (by omega) (by omega) (by omega), sw 6 (by omega) (by omega) (by omega)]
   rfl
 have b9 := sb 9 (by omega) (by omega) (by omega) (by omega)
 -- the sums
 have sg : ws G % 65535 = 0 := by
   have w1 := zlr (s.take (hn s)) i (a / 65536) (by omega) (by omega)
   have w2 := zlr (setW (s.take (hn s)) i (a / 65536)) (i + 2) (a % 65536) (by simp only [za7]; omega) (by omega)
   have w3 := zlr (setW (setW (s.take (hn s)) i (a / 65536)) (i + 2) (a % 65536)) 10 kg (by simp only [za7]; omega) (by omega)
   rw [zae _ _ _ _ (by omega) (by omega)] at w2
   rw [zae _ _ _ _ (by simp only [za7]; omega) (by omega), zae _ _ _ _ (by omega) (by omega)] at w3
   rw [<- eg] at w3
   have hsum : (ws (s.take (hn s)) : Int) % 65535 = 0 := zx0 hip.sum
   rw [zhy (show U16 (a / 65536) by unfold U32 at ha; unfold U16; omega)] at w1
   rw [zhy (show U16 (a % 65536) by unfold U16; omega)] at w2
   rw [zhy ug] at w3
   have : (ws G : Int) = ws (s.take (hn s)) + (kg - wAt (s.take (hn s)) 10 - (wAt (s.take (hn s)) i - a / 65536) - (wAt (s.take (hn s)) (i + 2) - a % 65536)) := by rw [w3, w2, w1]; exact sum3 _ _ _ _ _ _ _
   refine z27 ?_
   rw [this]
   exact zixb hsum mg
 have hip' : IpOk (Z) := by
   refine ⟨by omega, by omega, by omega, by rw [b0]; exact hip.ver, by omega, by have := hip.hall; omega, by rw [sw 6 (by omega) (by omega) (by omega)]; exact hip.flag, ?_, ?_, ?_⟩
   . obtain ⟨r1, r2, r3, r4, r5, r6, r7, r8, r9⟩ := hip.ref
     rw [hpk]
     exact ⟨r1, r2, r3, r4, r5, r6, r7, r8, by show (pk s).options.length + D.length <= 65515; rw [ld']; exact r9⟩
   . rw [hhn, ht]
     exact zmab _ (by rw [gb 0 (by omega) (by omega) (by omega) (by omega)]; have := hip.ver; omega)
   . rw [hhn, ht]; exact sg
 have wd1 : wAt (s.take (hn s)) i = wAt s i := wg i (by omega)
 have wd2 : wAt (s.take (hn s)) (i + 2) = wAt s (i + 2) := wg (i + 2) (by omega)
 -- what the sum ahead becomes
 have uwc : ∀ pr n : Int, uw (if i = 12 then a else (pk s).from') (if i = 12 then (pk s).to else a) pr n = uw (pk s).from' (pk s).to pr n + (a / 65536 - wAt s i) + (a % 65536 - wAt s (i + 2)) := fun pr n => by
   rcases hi with rfl | rfl
   . rw [if_pos rfl, if_pos rfl]; exact zjob (pk s).to a pr n ha (zac s 12) (zac s 14)
   . rw [if_neg (by decide), if_neg (by decide)]; exact zpfb (pk s).from' a pr n ha (zac s 16) (zac s 18)
 refine ⟨⟨hip', by rw [b9]; exact h.proto, by rw [hpk]; exact h.whole, fun h6 => ?_, fun h17 => ?_⟩, hpk, b9, ⟨kd, ed⟩, hlen⟩
 . -- a segment
   rw [b9] at h6
   have hc : cOf s = 16 := by unfold cOf; rw [if_neg (by omega)]
   have hu : udpB s = false := by unfold udpB; rw [decide_eq_false (by omega)]
   obtain ⟨t1, t2, t3, t4, ⟨l, t5⟩, t6⟩ := h.tcp h6
   obtain ⟨m1, m2, m3⟩ := md (by rw [hu]; rintro ⟨h, _⟩; cases h)
   rw [hpk]
   show TcOk D _ _
   have h20 : 20 <= (pk s).data.length := by omega
   have b12 : D.getD 12 0 = (pk s).data.getD 12 0 := by
     rw [ed, hc, zck _ _ _ _ (by simp only [za7]; omega) (by omega) (by omega), zck _ _ _ _ (by omega) (by omega) (by omega)]
   have htn : tn D = tn (pk s).data := by unfold tn; rw [b12]
   have hd20 : D.drop 20 = (pk s).data.drop 20 := by
     rw [ed, hc, zdk _ _ _ _ (by omega), zdk _ _ _ _ (by omega)]
   refine ⟨by rw [htn]; exact t1, by rw [htn, ld']; exact t2, by rw [htn, ld']; exact t3, by rw [b12]; exact t4, ⟨l, ?_⟩, ?_⟩
   . rw [htn, List.drop_take, hd20, <- List.drop_take]; exact t5
   . unfold sumR at t6 ⊢
     rw [ld']
     have v1 := zqv (pk s).from' (pk s).to 6 (pk s).data.length (pk s).data
     have v2 := zqv (if i = 12 then a else (pk s).from') (if i = 12 then (pk s).to else a) 6 (pk s).data.length D
     rw [uwc] at v2
     have v3 := zlr (pk s).data off p (by omega) (by omega)
     have v4 := zlr (setW (pk s).data off p) 16 kd (by simp only [za7]; omega) (by omega)
     rw [zae _ _ _ _ (by omega) (by omega)] at v4
     have hD : setW (setW (pk s).data off p) 16 kd = D := by rw [ed, hc]
     rw [hD, zhy ud] at v4
     rw [zhy hp] at v3
     rw [hc, wd1, wd2] at m1
     refine ⟨zi6b v2 (by rw [<- uwc]; first | exact uw6 _ _ _ | exact uw17 _ _ _) (by decide), z27 (z43 v1 (zx0 t6.2) v2 rfl ?_ m1)⟩
     rw [v4, v3]
 . -- a letter
   rw [b9] at h17
   have hc : cOf s = 6 := by unfold cOf; rw [if_pos h17]
   have hu : udpB s = true := by unfold udpB; rw [decide_eq_true h17]
   obtain ⟨t1, t2, t3, t4⟩ := h.udp h17
   rw [hpk]
   show DgOk D _ _
   have w4 : wAt D 4 = wAt (pk s).data 4 := by
     rw [ed, hc, zae _ _ _ _ (by simp only [za7]; omega) (by omega), zae _ _ _ _ (by omega) (by omega)]
   have w6 : wAt D 6 = kd := by
     rw [ed, hc, zhw _ _ _ (by simp only [za7]; omega)]; unfold U16 at ud; omega
   refine ⟨by rw [w4]; exact t1, by rw [w4, ld']; exact t2, by rw [w4]; exact t3, ?_⟩
   rw [w4, w6]
   intro hk0
   have hz : ¬ (udpB s = true /\ wAt (pk s).data (cOf s) = 0) := fun hx => hk0 (zd hx)
   have hz6 : wAt (pk s).data 6 ≠ 0 := fun hx => hz ⟨hu, by rw [hc]; exact hx⟩
   obtain ⟨m1, m2, m3⟩ := md hz
   have t6 := t4 hz6
   have b4 := zac (pk s).data 4
   have htk : D.take (wAt (pk s).data 4).toNat = setW (setW ((pk s).data.take (wAt (pk s).data 4).toNat) off p) 6 kd := by
     rw [ed, hc, zpx _ _ _ _ (by omega), zpx _ _ _ _ (by omega)]
   rw [htk]
   generalize hq : (pk s).data.take (wAt (pk s).data 4).toNat = q at *
   have lq : q.length = (wAt (pk s).data 4).toNat := by rw [<- hq, List.length_take]; omega
   have qo : wAt q off = wAt (pk s).data off := by rw [<- hq]; exact zmu _ _ _ (by omega)
   have q6 : wAt q 6 = wAt (pk s).data 6 := by rw [<- hq]; exact zmu _ _ _ (by omega)
   have v1 := zqv (pk s).from' (pk s).to 17 (wAt (pk s).data 4) q
   have v2 := zqv (if i = 12 then a else (pk s).from') (if i = 12 then (pk s).to else a) 17 (wAt (pk s).data 4) (setW (setW q off p) 6 kd)
   rw [uwc] at v2
   have v3 := zlr q off p (by omega) (by omega)
   have v4 := zlr (setW q off p) 6 kd (by simp only [za7]; omega) (by omega)
   rw [zae _ _ _ _ (by omega) (by omega), zhy ud] at v4
   rw [zhy hp] at v3
   rw [hc, wd1, wd2, <- q6, <- qo] at m1
   refine ⟨zi6b v2 (by rw [<- uwc]; first | exact uw6 _ _ _ | exact uw17 _ _ _) (by decide), z27 (z43 v1 (zx0 t6.2) v2 rfl ?_ m1)⟩
   rw [v4, v3]
end Go.Proofs.YthkhikdglmaiaaaGreatDoor.X
