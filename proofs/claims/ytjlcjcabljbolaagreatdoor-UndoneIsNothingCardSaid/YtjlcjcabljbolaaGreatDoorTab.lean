/- The program's tables,by program. -/
import Derived.Test.YtjlcjcabljbolaaGreatDoorTw
import Derived.Test.YtjlcjcabljbolaaGreatDoorArena
import Derived.Test.YtjlcjcabljbolaaGreatDoorProg
namespace Go.Proofs.YtjlcjcabljbolaaGreatDoor
open Go
def Eh.enc (x : Eh) : List Value:=[sV x.Key,iV x.Metres,iV x.Stroke,iV x.Course,iV x.Legs,iV x.Sex,iV x.Young,iV x.Old]
theorem Eh.enc_ok : Enc 8 Eh.enc:=⟨fun _=>rfl,fun _ u h=>by simp [Eh.enc] at h; rcases h with rfl | rfl | rfl | rfl | rfl | rfl | rfl | rfl <;> rfl⟩
def Sk.enc (x : Sk) : List Value:=[iV x.Size,iV x.Many,iV x.Reserves]
theorem Sk.enc_ok : Enc 3 Sk.enc:=⟨fun _=>rfl,fun _ u h=>by simp [Sk.enc] at h; rcases h with rfl | rfl | rfl <;> rfl⟩
def Dt.enc (x : Dt) : List Value:=[sV x.Site,iV x.No,iV x.At,iV x.Kind,sV x.Who,sV x.Club,sV x.Race,iV x.Time,iV x.Fault,sV x.Of,iV x.Other]
theorem Dt.enc_ok : Enc 11 Dt.enc:=⟨fun _=>rfl,fun _ u h=>by simp [Dt.enc] at h; rcases h with rfl | rfl | rfl | rfl | rfl | rfl | rfl | rfl | rfl | rfl | rfl <;> rfl⟩
def Eg.enc (x : Eg) : List Value:=[sV x.site_,iV x.no_]
theorem Eg.enc_ok : Enc 2 Eg.enc:=⟨fun _=>rfl,fun _ u h=>by simp [Eg.enc] at h; rcases h with rfl | rfl <;> rfl⟩
def Jk.enc (x : Jk) : List Value:=[sV x.Who,iV x.Time]
theorem Jk.enc_ok : Enc 2 Jk.enc:=⟨fun _=>rfl,fun _ u h=>by simp [Jk.enc] at h; rcases h with rfl | rfl <;> rfl⟩
def Dw.enc (x : Dw) : List Value:=[sV x.Who,iV x.Rank,iV x.Time,iV x.Fault]
theorem Dw.enc_ok : Enc 4 Dw.enc:=⟨fun _=>rfl,fun _ u h=>by simp [Dw.enc] at h; rcases h with rfl | rfl | rfl | rfl <;> rfl⟩
def Ep.enc (x : Ep) : List Value:=[iV x.Num,iV x.Den]
theorem Ep.enc_ok : Enc 2 Ep.enc:=⟨fun _=>rfl,fun _ u h=>by simp [Ep.enc] at h; rcases h with rfl | rfl <;> rfl⟩
def Iw.enc (x : Iw) : List Value:=[iV x.Rank,sV x.Who,sV x.Club,iV x.Time,iV x.Fault,iV x.Points.Num,iV x.Points.Den]
theorem Iw.enc_ok : Enc 7 Iw.enc:=⟨fun _=>rfl,fun _ u h=>by simp [Iw.enc] at h; rcases h with rfl | rfl | rfl | rfl | rfl | rfl | rfl <;> rfl⟩
def Du.enc (x : Du) : List Value:=[sV x.Race,sV x.Who,sV x.Club,iV x.Rank,bV x.Relay]
theorem Du.enc_ok : Enc 5 Du.enc:=⟨fun _=>rfl,fun _ u h=>by simp [Du.enc] at h; rcases h with rfl | rfl | rfl | rfl | rfl <;> rfl⟩
def Ff.enc (x : Ff) : List Value:=[sV x.race_,sV x.who_]
theorem Ff.enc_ok : Enc 2 Ff.enc:=⟨fun _=>rfl,fun _ u h=>by simp [Ff.enc] at h; rcases h with rfl | rfl <;> rfl⟩
def Kq.enc (x : Kq) : List Value:=[sV x.Key,iV x.Points.Num,iV x.Points.Den]
theorem Kq.enc_ok : Enc 3 Kq.enc:=⟨fun _=>rfl,fun _ u h=>by simp [Kq.enc] at h; rcases h with rfl | rfl | rfl <;> rfl⟩
def Eb.enc (x : Eb) : List Value:=[sV x.x_.Race,sV x.x_.Who,sV x.x_.Club,iV x.x_.Rank,bV x.x_.Relay,iV x.points_.Num,iV x.points_.Den]
theorem Eb.enc_ok : Enc 7 Eb.enc:=⟨fun _=>rfl,fun _ u h=>by simp [Eb.enc] at h; rcases h with rfl | rfl | rfl | rfl | rfl | rfl | rfl <;> rfl⟩
def Ml.enc (x : Ml) : List Value:=[iV x.Year,iV x.Month,iV x.Day]
theorem Ml.enc_ok : Enc 3 Ml.enc:=⟨fun _=>rfl,fun _ u h=>by simp [Ml.enc] at h; rcases h with rfl | rfl | rfl <;> rfl⟩
def Nn.enc (x : Nn) : List Value:=[sV x.Key,iV x.Heats,iV x.Long,iV x.Gap,iV x.Break]
theorem Nn.enc_ok : Enc 5 Nn.enc:=⟨fun _=>rfl,fun _ u h=>by simp [Nn.enc] at h; rcases h with rfl | rfl | rfl | rfl | rfl <;> rfl⟩
def Tg.enc (x : Tg) : List Value:=[iV x.From,iV x.To]
theorem Tg.enc_ok : Enc 2 Tg.enc:=⟨fun _=>rfl,fun _ u h=>by simp [Tg.enc] at h; rcases h with rfl | rfl <;> rfl⟩
def Kn.enc (x : Kn) : List Value:=[sV x.Item,iV x.Heat,iV x.Time.From,iV x.Time.To]
theorem Kn.enc_ok : Enc 4 Kn.enc:=⟨fun _=>rfl,fun _ u h=>by simp [Kn.enc] at h; rcases h with rfl | rfl | rfl | rfl <;> rfl⟩
def Rd.enc (x : Rd) : List Value:=[sV x.Race,iV x.Time]
theorem Rd.enc_ok : Enc 2 Rd.enc:=⟨fun _=>rfl,fun _ u h=>by simp [Rd.enc] at h; rcases h with rfl | rfl <;> rfl⟩
def Kg.enc (x : Kg) : List Value:=[iV x.At,iV x.Kind,sV x.Id,sV x.Who,sV x.Club,sV x.Race,iV x.Age,iV x.Time]
theorem Kg.enc_ok : Enc 8 Kg.enc:=⟨fun _=>rfl,fun _ u h=>by simp [Kg.enc] at h; rcases h with rfl | rfl | rfl | rfl | rfl | rfl | rfl | rfl <;> rfl⟩
structure R28 where
  mk ::
  (Points : RS)
  (Relay : Int)
  (Most : Int)
def R28.enc (x : R28) : List Value:=[x.Points.val,iV x.Relay,iV x.Most]
theorem R28.enc_ok : Enc 3 R28.enc:=⟨fun _=>rfl,fun x u h=>by
    simp only [R28.enc,List.mem_cons,List.not_mem_nil,or_false] at h
    rcases h with rfl | rfl | rfl
    · exact x.Points.property
    · exact rfl
    · exact rfl⟩
def Xm (φ : View) (x : Lu) (r : R28) : Prop:=∃ u1 : RS,r = ⟨u1,x.Relay,x.Most⟩ ∧ Slc φ 1 u1.val (x.Points.map eInt)
theorem Yc {φ ψ : View} (l : View.le φ ψ) (x : Lu) (r : R28) (h : Xm φ x r) : Xm ψ x r:=by
  obtain ⟨u1,e,h1⟩:=h
  exact ⟨u1,e,h1.mono l⟩
theorem rels_28 {φ ψ : View} (l : View.le φ ψ) {xs : List Lu} {rs : List R28} (h : La (Xm φ) xs rs) : La (Xm ψ) xs rs:=h.chg (Yc l)
structure R32 where
  mk ::
  (Races : RS)
  (Table : R28)
  (Final : Sk)
def R32.enc (x : R32) : List Value:=[x.Races.val] ++ R28.enc x.Table ++ [iV x.Final.Size,iV x.Final.Many,iV x.Final.Reserves]
theorem R32.enc_ok : Enc 7 R32.enc:=⟨fun x=>by simp [R32.enc,R28.enc_ok.len],fun x u h=>by
    simp only [R32.enc,List.mem_append,List.mem_cons,List.not_mem_nil,or_false] at h
    first
    | (rcases h with (h | h) | h
       · rcases h with rfl
         · exact x.Races.property
       · exact R28.enc_ok.one _ u h
       · rcases h with rfl | rfl | rfl
         · exact rfl
         · exact rfl
         · exact rfl)⟩
def Tv (φ : View) (x : Mp) (r : R32) : Prop:=∃ u1 : RS,∃ u2 : R28,r = ⟨u1,u2,x.Final⟩ ∧ Slc φ 8 u1.val (x.Races.map Eh.enc) ∧ Xm φ x.Table u2
theorem Yd {φ ψ : View} (l : View.le φ ψ) (x : Mp) (r : R32) (h : Tv φ x r) : Tv ψ x r:=by
  obtain ⟨u1,u2,e,h1,h2⟩:=h
  exact ⟨u1,u2,e,h1.mono l,Yc l _ _ h2⟩
theorem rels_32 {φ ψ : View} (l : View.le φ ψ) {xs : List Mp} {rs : List R32} (h : La (Tv φ) xs rs) : La (Tv ψ) xs rs:=h.chg (Yd l)
structure R99 where
  mk ::
  (p_ : R32)
  (deeds_ : RS)
def R99.enc (x : R99) : List Value:=R32.enc x.p_ ++ [x.deeds_.val]
theorem R99.enc_ok : Enc 8 R99.enc:=⟨fun x=>by simp [R99.enc,R32.enc_ok.len],fun x u h=>by
    simp only [R99.enc,List.mem_append,List.mem_cons,List.not_mem_nil,or_false] at h
    first
    | (rcases h with h | h
       · exact R32.enc_ok.one _ u h
       · rcases h with rfl
         · exact x.deeds_.property)⟩
def EX (φ : View) (x : Kd) (r : R99) : Prop:=∃ u1 : R32,∃ u2 : RS,r = ⟨u1,u2⟩ ∧ Tv φ x.p_ u1 ∧ Slc φ 11 u2.val (x.deeds_.map Dt.enc)
theorem Uo {φ ψ : View} (l : View.le φ ψ) (x : Kd) (r : R99) (h : EX φ x r) : EX ψ x r:=by
  obtain ⟨u1,u2,e,h1,h2⟩:=h
  exact ⟨u1,u2,e,Yd l _ _ h1,h2.mono l⟩
theorem rels_99 {φ ψ : View} (l : View.le φ ψ) {xs : List Kd} {rs : List R99} (h : La (EX φ) xs rs) : La (EX ψ) xs rs:=h.chg (Uo l)
structure Sf where
  mk ::
  (Who : ByteArray)
  (Fault : Int)
  (Reports : RS)
def Sf.enc (x : Sf) : List Value:=[sV x.Who,iV x.Fault,x.Reports.val]
theorem Sf.enc_ok : Enc 3 Sf.enc:=⟨fun _=>rfl,fun x u h=>by
    simp only [Sf.enc,List.mem_cons,List.not_mem_nil,or_false] at h
    rcases h with rfl | rfl | rfl
    · exact rfl
    · exact rfl
    · exact x.Reports.property⟩
def Uh (φ : View) (x : Ib) (r : Sf) : Prop:=∃ u1 : RS,r = ⟨x.Who,x.Fault,u1⟩ ∧ Slc φ 1 u1.val (x.Reports.map Xh)
theorem KM {φ ψ : View} (l : View.le φ ψ) (x : Ib) (r : Sf) (h : Uh φ x r) : Uh ψ x r:=by
  obtain ⟨u1,e,h1⟩:=h
  exact ⟨u1,e,h1.mono l⟩
theorem HA {φ ψ : View} (l : View.le φ ψ) {xs : List Ib} {rs : List Sf} (h : La (Uh φ) xs rs) : La (Uh ψ) xs rs:=h.chg (KM l)
def Ye (φ : View) (x : (List Du)) (r : RS) : Prop:=Slc φ 5 r.val (x.map Du.enc)
theorem KN {φ ψ : View} (l : View.le φ ψ) (x : (List Du)) (r : RS) (h : Ye φ x r) : Ye ψ x r:=Slc.mono h l
theorem DU {φ ψ : View} (l : View.le φ ψ) {xs : List (List Du)} {rs : List RS} (h : La (Ye φ) xs rs) : La (Ye ψ) xs rs:=h.chg (KN l)
structure R82 where
  mk ::
  (Key : ByteArray)
  (Race : ByteArray)
  (Clubs : RS)
  (Young : Int)
  (Old : Int)
def R82.enc (x : R82) : List Value:=[sV x.Key,sV x.Race,x.Clubs.val,iV x.Young,iV x.Old]
theorem R82.enc_ok : Enc 5 R82.enc:=⟨fun _=>rfl,fun x u h=>by
    simp only [R82.enc,List.mem_cons,List.not_mem_nil,or_false] at h
    rcases h with rfl | rfl | rfl | rfl | rfl
    · exact rfl
    · exact rfl
    · exact x.Clubs.property
    · exact rfl
    · exact rfl⟩
def AR (φ : View) (x : Tz) (r : R82) : Prop:=∃ u1 : RS,r = ⟨x.Key,x.Race,u1,x.Young,x.Old⟩ ∧ Slc φ 1 u1.val (x.Clubs.map Xh)
theorem MD {φ ψ : View} (l : View.le φ ψ) (x : Tz) (r : R82) (h : AR φ x r) : AR ψ x r:=by
  obtain ⟨u1,e,h1⟩:=h
  exact ⟨u1,e,h1.mono l⟩
theorem PF {φ ψ : View} (l : View.le φ ψ) {xs : List Tz} {rs : List R82} (h : La (AR φ) xs rs) : La (AR ψ) xs rs:=h.chg (MD l)
theorem Tryz.mixed : Tryz.prog.follows .mixedOrders = true:=by kernel_rfl
theorem Oz : SlT Tryz.prog 22 3 1 8:=Sv (z:=(iV 0)) Tryz.underlying22 Tryz.sizeOf3 (by kernel_rfl) rfl
theorem Vi : SlT Tryz.prog 26 51 8 72:=Sv (z:=(.agg #[sV An,iV 0,iV 0,iV 0,iV 0,iV 0,iV 0,iV 0])) Tryz.underlying26 Tryz.sizeOf51 (by kernel_rfl) rfl
theorem Ni : SlT Tryz.prog 34 38 11 128:=Sv (z:=(.agg #[sV An,iV 0,iV 0,iV 0,sV An,sV An,sV An,iV 0,iV 0,sV An,iV 0])) Tryz.underlying34 Tryz.sizeOf38 (by kernel_rfl) rfl
theorem Wv : SlT Tryz.prog 40 9 1 16:=Sv (z:=(sV An)) Tryz.underlying40 Tryz.sizeOf9 (by kernel_rfl) rfl
theorem JH : SlT Tryz.prog 59 66 7 72:=Sv (z:=(.agg #[iV 0,sV An,sV An,iV 0,iV 0,iV 0,iV 0])) Tryz.underlying59 Tryz.sizeOf66 (by kernel_rfl) rfl
theorem sl_67 : SlT Tryz.prog 67 41 1 8:=Sv (z:=(iV 0)) Tryz.underlying67 Tryz.sizeOf41 (by kernel_rfl) rfl
theorem ME : SlT Tryz.prog 75 74 5 48:=Sv (z:=(.agg #[sV An,iV 0,iV 0,iV 0,iV 0])) Tryz.underlying75 Tryz.sizeOf74 (by kernel_rfl) rfl
theorem JI : SlT Tryz.prog 79 78 2 24:=Sv (z:=(.agg #[sV An,iV 0])) Tryz.underlying79 Tryz.sizeOf78 (by kernel_rfl) rfl
theorem JJ : SlT Tryz.prog 83 82 5 72:=Sv (z:=(.agg #[sV An,sV An,.slice none 0 0,iV 0,iV 0])) Tryz.underlying83 Tryz.sizeOf82 (by kernel_rfl) rfl
theorem Rq : SlT Tryz.prog 103 109 4 40:=Sv (z:=(.agg #[sV An,iV 0,iV 0,iV 0])) Tryz.underlying103 Tryz.sizeOf109 (by kernel_rfl) rfl
theorem Nj : SlT Tryz.prog 107 111 5 64:=Sv (z:=(.agg #[sV An,sV An,sV An,iV 0,bV false])) Tryz.underlying107 Tryz.sizeOf111 (by kernel_rfl) rfl
theorem NX : SlT Tryz.prog 115 120 3 32:=Sv (z:=(.agg #[sV An,iV 0,iV 0])) Tryz.underlying115 Tryz.sizeOf120 (by kernel_rfl) rfl
theorem KO : SlT Tryz.prog 123 171 4 40:=Sv (z:=(.agg #[sV An,iV 0,iV 0,iV 0])) Tryz.underlying123 Tryz.sizeOf171 (by kernel_rfl) rfl
theorem EY : SlT Tryz.prog 152 156 2 24:=Sv (z:=(.agg #[sV An,iV 0])) Tryz.underlying152 Tryz.sizeOf156 (by kernel_rfl) rfl
theorem CW : SlT Tryz.prog 153 158 3 48:=Sv (z:=(.agg #[sV An,iV 0,.slice none 0 0])) Tryz.underlying153 Tryz.sizeOf158 (by kernel_rfl) rfl
theorem AS : SlT Tryz.prog 163 166 7 80:=Sv (z:=(.agg #[sV An,sV An,sV An,iV 0,bV false,iV 0,iV 0])) Tryz.underlying163 Tryz.sizeOf166 (by kernel_rfl) rfl
theorem Zo : SlT Tryz.prog 185 107 1 24:=Sv (z:=(.slice none 0 0)) Tryz.underlying185 Tryz.sizeOf107 (by kernel_rfl) rfl
theorem GK : Ma Tryz.prog 25 0 0:=⟨_,_,_,Tryz.underlying25,rfl,Tryz.sizeOf22,rfl,rfl⟩
theorem DV : Ma Tryz.prog 25 1 1:=⟨_,_,_,Tryz.underlying25,rfl,Tryz.sizeOf3,rfl,rfl⟩
theorem Zp : Ma Tryz.prog 28 0 0:=⟨_,_,_,Tryz.underlying28,rfl,Tryz.sizeOf22,rfl,rfl⟩
theorem PG : Ma Tryz.prog 28 1 1:=⟨_,_,_,Tryz.underlying28,rfl,Tryz.sizeOf3,rfl,rfl⟩
theorem KP : Ma Tryz.prog 28 2 2:=⟨_,_,_,Tryz.underlying28,rfl,Tryz.sizeOf3,rfl,rfl⟩
theorem fa_30_0 : Ma Tryz.prog 30 0 0:=⟨_,_,_,Tryz.underlying30,rfl,Tryz.sizeOf3,rfl,rfl⟩
theorem fa_30_1 : Ma Tryz.prog 30 1 1:=⟨_,_,_,Tryz.underlying30,rfl,Tryz.sizeOf3,rfl,rfl⟩
theorem fa_30_2 : Ma Tryz.prog 30 2 2:=⟨_,_,_,Tryz.underlying30,rfl,Tryz.sizeOf3,rfl,rfl⟩
theorem Yf : Ma Tryz.prog 32 0 0:=⟨_,_,_,Tryz.underlying32,rfl,Tryz.sizeOf26,rfl,rfl⟩
theorem PH : Ma Tryz.prog 32 1 1:=⟨_,_,_,Tryz.underlying32,rfl,Tryz.sizeOf28,rfl,rfl⟩
theorem fa_32_2 : Ma Tryz.prog 32 2 4:=⟨_,_,_,Tryz.underlying32,rfl,Tryz.sizeOf30,rfl,rfl⟩
theorem Ri : Ma Tryz.prog 38 0 0:=⟨_,_,_,Tryz.underlying38,rfl,Tryz.sizeOf9,rfl,rfl⟩
theorem Tk : Ma Tryz.prog 38 1 1:=⟨_,_,_,Tryz.underlying38,rfl,Tryz.sizeOf3,rfl,rfl⟩
theorem Ui : Ma Tryz.prog 38 2 2:=⟨_,_,_,Tryz.underlying38,rfl,Tryz.sizeOf3,rfl,rfl⟩
theorem Pm : Ma Tryz.prog 38 3 3:=⟨_,_,_,Tryz.underlying38,rfl,Tryz.sizeOf3,rfl,rfl⟩
theorem Ou : Ma Tryz.prog 38 4 4:=⟨_,_,_,Tryz.underlying38,rfl,Tryz.sizeOf9,rfl,rfl⟩
theorem Vj : Ma Tryz.prog 38 5 5:=⟨_,_,_,Tryz.underlying38,rfl,Tryz.sizeOf9,rfl,rfl⟩
theorem Sr : Ma Tryz.prog 38 6 6:=⟨_,_,_,Tryz.underlying38,rfl,Tryz.sizeOf9,rfl,rfl⟩
theorem Uj : Ma Tryz.prog 38 7 7:=⟨_,_,_,Tryz.underlying38,rfl,Tryz.sizeOf3,rfl,rfl⟩
theorem Wf : Ma Tryz.prog 38 8 8:=⟨_,_,_,Tryz.underlying38,rfl,Tryz.sizeOf3,rfl,rfl⟩
theorem Yg : Ma Tryz.prog 38 9 9:=⟨_,_,_,Tryz.underlying38,rfl,Tryz.sizeOf9,rfl,rfl⟩
theorem Vn : Ma Tryz.prog 38 10 10:=⟨_,_,_,Tryz.underlying38,rfl,Tryz.sizeOf3,rfl,rfl⟩
theorem Xa : Ma Tryz.prog 51 0 0:=⟨_,_,_,Tryz.underlying51,rfl,Tryz.sizeOf9,rfl,rfl⟩
theorem KQ : Ma Tryz.prog 51 1 1:=⟨_,_,_,Tryz.underlying51,rfl,Tryz.sizeOf3,rfl,rfl⟩
theorem KR : Ma Tryz.prog 51 2 2:=⟨_,_,_,Tryz.underlying51,rfl,Tryz.sizeOf3,rfl,rfl⟩
theorem GL : Ma Tryz.prog 51 3 3:=⟨_,_,_,Tryz.underlying51,rfl,Tryz.sizeOf3,rfl,rfl⟩
theorem DW : Ma Tryz.prog 51 4 4:=⟨_,_,_,Tryz.underlying51,rfl,Tryz.sizeOf3,rfl,rfl⟩
theorem fa_51_5 : Ma Tryz.prog 51 5 5:=⟨_,_,_,Tryz.underlying51,rfl,Tryz.sizeOf3,rfl,rfl⟩
theorem KS : Ma Tryz.prog 51 6 6:=⟨_,_,_,Tryz.underlying51,rfl,Tryz.sizeOf3,rfl,rfl⟩
theorem KT : Ma Tryz.prog 51 7 7:=⟨_,_,_,Tryz.underlying51,rfl,Tryz.sizeOf3,rfl,rfl⟩
theorem Xb : Ma Tryz.prog 71 0 0:=⟨_,_,_,Tryz.underlying71,rfl,Tryz.sizeOf3,rfl,rfl⟩
theorem DX : Ma Tryz.prog 71 1 1:=⟨_,_,_,Tryz.underlying71,rfl,Tryz.sizeOf3,rfl,rfl⟩
theorem KU : Ma Tryz.prog 71 2 2:=⟨_,_,_,Tryz.underlying71,rfl,Tryz.sizeOf3,rfl,rfl⟩
theorem GM : Ma Tryz.prog 74 0 0:=⟨_,_,_,Tryz.underlying74,rfl,Tryz.sizeOf9,rfl,rfl⟩
theorem KV : Ma Tryz.prog 74 1 1:=⟨_,_,_,Tryz.underlying74,rfl,Tryz.sizeOf3,rfl,rfl⟩
theorem KW : Ma Tryz.prog 74 2 2:=⟨_,_,_,Tryz.underlying74,rfl,Tryz.sizeOf3,rfl,rfl⟩
theorem PI : Ma Tryz.prog 74 3 3:=⟨_,_,_,Tryz.underlying74,rfl,Tryz.sizeOf3,rfl,rfl⟩
theorem PJ : Ma Tryz.prog 74 4 4:=⟨_,_,_,Tryz.underlying74,rfl,Tryz.sizeOf3,rfl,rfl⟩
theorem GN : Ma Tryz.prog 78 0 0:=⟨_,_,_,Tryz.underlying78,rfl,Tryz.sizeOf9,rfl,rfl⟩
theorem PK : Ma Tryz.prog 78 1 1:=⟨_,_,_,Tryz.underlying78,rfl,Tryz.sizeOf3,rfl,rfl⟩
theorem GO : Ma Tryz.prog 82 0 0:=⟨_,_,_,Tryz.underlying82,rfl,Tryz.sizeOf9,rfl,rfl⟩
theorem PL : Ma Tryz.prog 82 1 1:=⟨_,_,_,Tryz.underlying82,rfl,Tryz.sizeOf9,rfl,rfl⟩
theorem DY : Ma Tryz.prog 82 2 2:=⟨_,_,_,Tryz.underlying82,rfl,Tryz.sizeOf40,rfl,rfl⟩
theorem KX : Ma Tryz.prog 82 3 3:=⟨_,_,_,Tryz.underlying82,rfl,Tryz.sizeOf3,rfl,rfl⟩
theorem KY : Ma Tryz.prog 82 4 4:=⟨_,_,_,Tryz.underlying82,rfl,Tryz.sizeOf3,rfl,rfl⟩
theorem PM : Ma Tryz.prog 85 0 0:=⟨_,_,_,Tryz.underlying85,rfl,Tryz.sizeOf3,rfl,rfl⟩
theorem GP : Ma Tryz.prog 85 1 1:=⟨_,_,_,Tryz.underlying85,rfl,Tryz.sizeOf3,rfl,rfl⟩
theorem PN : Ma Tryz.prog 85 2 2:=⟨_,_,_,Tryz.underlying85,rfl,Tryz.sizeOf9,rfl,rfl⟩
theorem fa_85_3 : Ma Tryz.prog 85 3 3:=⟨_,_,_,Tryz.underlying85,rfl,Tryz.sizeOf9,rfl,rfl⟩
theorem KZ : Ma Tryz.prog 85 4 4:=⟨_,_,_,Tryz.underlying85,rfl,Tryz.sizeOf9,rfl,rfl⟩
theorem PO : Ma Tryz.prog 85 5 5:=⟨_,_,_,Tryz.underlying85,rfl,Tryz.sizeOf9,rfl,rfl⟩
theorem PP : Ma Tryz.prog 85 6 6:=⟨_,_,_,Tryz.underlying85,rfl,Tryz.sizeOf3,rfl,rfl⟩
theorem fa_85_7 : Ma Tryz.prog 85 7 7:=⟨_,_,_,Tryz.underlying85,rfl,Tryz.sizeOf3,rfl,rfl⟩
theorem GQ : Ma Tryz.prog 99 0 0:=⟨_,_,_,Tryz.underlying99,rfl,Tryz.sizeOf32,rfl,rfl⟩
theorem GR : Ma Tryz.prog 99 1 7:=⟨_,_,_,Tryz.underlying99,rfl,Tryz.sizeOf34,rfl,rfl⟩
theorem AU : Ma Tryz.prog 109 0 0:=⟨_,_,_,Tryz.underlying109,rfl,Tryz.sizeOf9,rfl,rfl⟩
theorem AV : Ma Tryz.prog 109 1 1:=⟨_,_,_,Tryz.underlying109,rfl,Tryz.sizeOf3,rfl,rfl⟩
theorem Ys : Ma Tryz.prog 109 2 2:=⟨_,_,_,Tryz.underlying109,rfl,Tryz.sizeOf3,rfl,rfl⟩
theorem MF : Ma Tryz.prog 109 3 3:=⟨_,_,_,Tryz.underlying109,rfl,Tryz.sizeOf3,rfl,rfl⟩
theorem Wl : Ma Tryz.prog 111 0 0:=⟨_,_,_,Tryz.underlying111,rfl,Tryz.sizeOf9,rfl,rfl⟩
theorem Wm : Ma Tryz.prog 111 1 1:=⟨_,_,_,Tryz.underlying111,rfl,Tryz.sizeOf9,rfl,rfl⟩
theorem AW : Ma Tryz.prog 111 2 2:=⟨_,_,_,Tryz.underlying111,rfl,Tryz.sizeOf9,rfl,rfl⟩
theorem Nk : Ma Tryz.prog 111 3 3:=⟨_,_,_,Tryz.underlying111,rfl,Tryz.sizeOf3,rfl,rfl⟩
theorem HB : Ma Tryz.prog 111 4 4:=⟨_,_,_,Tryz.underlying111,rfl,Tryz.sizeOf4,rfl,rfl⟩
theorem TF : Ma Tryz.prog 120 0 0:=⟨_,_,_,Tryz.underlying120,rfl,Tryz.sizeOf9,rfl,rfl⟩
theorem TG : Ma Tryz.prog 120 1 1:=⟨_,_,_,Tryz.underlying120,rfl,Tryz.sizeOf64,rfl,rfl⟩
theorem AX : Ma Tryz.prog 156 0 0:=⟨_,_,_,Tryz.underlying156,rfl,Tryz.sizeOf9,rfl,rfl⟩
theorem MG : Ma Tryz.prog 156 1 1:=⟨_,_,_,Tryz.underlying156,rfl,Tryz.sizeOf3,rfl,rfl⟩
theorem DZ : Ma Tryz.prog 158 0 0:=⟨_,_,_,Tryz.underlying158,rfl,Tryz.sizeOf9,rfl,rfl⟩
theorem MH : Ma Tryz.prog 158 1 1:=⟨_,_,_,Tryz.underlying158,rfl,Tryz.sizeOf3,rfl,rfl⟩
theorem EA : Ma Tryz.prog 166 0 0:=⟨_,_,_,Tryz.underlying166,rfl,Tryz.sizeOf111,rfl,rfl⟩
theorem MI : Ma Tryz.prog 166 1 5:=⟨_,_,_,Tryz.underlying166,rfl,Tryz.sizeOf64,rfl,rfl⟩
theorem TH : Ma Tryz.prog 169 1 1:=⟨_,_,_,Tryz.underlying169,rfl,Tryz.sizeOf3,rfl,rfl⟩
theorem TI : Ma Tryz.prog 171 2 2:=⟨_,_,_,Tryz.underlying171,rfl,Tryz.sizeOf169,rfl,rfl⟩
theorem eq_38 (dd : Nat) (x y : Dt) (w : World) : (Op.equalIn (dd + 2) 38 (.agg (Dt.enc x).toArray) (.agg (Dt.enc y).toArray)).run Tryz.prog w = .ok (decide (x = y)) w:=by
  refine Te (dd:=dd + 1) (fs:=(Tryz.prog.fieldsOf 38).toList) (by kernel_rfl) rfl (by kernel_rfl) (?_ : _ = Result.ok (decide (x.Site = y.Site) && (decide (x.No = y.No) && (decide (x.At = y.At) && (decide (x.Kind = y.Kind) && (decide (x.Who = y.Who) && (decide (x.Club = y.Club) && (decide (x.Race = y.Race) && (decide (x.Time = y.Time) && (decide (x.Fault = y.Fault) && (decide (x.Of = y.Of) && (decide (x.Other = y.Other) && true))))))))))) w) (by cases x; cases y; simp [Bool.decide_and])
  simp only [Program.fieldsOf,Tryz.underlying38]
  exact (Jz (by decide) (Fo Tryz.isAgg9 rfl) (Fo Tryz.isAgg9 rfl) (Na Tryz.underlying9) (Jz (by decide) (Fo Tryz.isAgg3 rfl) (Fo Tryz.isAgg3 rfl) (Mf Tryz.underlying3) (Jz (by decide) (Fo Tryz.isAgg3 rfl) (Fo Tryz.isAgg3 rfl) (Mf Tryz.underlying3) (Jz (by decide) (Fo Tryz.isAgg3 rfl) (Fo Tryz.isAgg3 rfl) (Mf Tryz.underlying3) (Jz (by decide) (Fo Tryz.isAgg9 rfl) (Fo Tryz.isAgg9 rfl) (Na Tryz.underlying9) (Jz (by decide) (Fo Tryz.isAgg9 rfl) (Fo Tryz.isAgg9 rfl) (Na Tryz.underlying9) (Jz (by decide) (Fo Tryz.isAgg9 rfl) (Fo Tryz.isAgg9 rfl) (Na Tryz.underlying9) (Jz (by decide) (Fo Tryz.isAgg3 rfl) (Fo Tryz.isAgg3 rfl) (Mf Tryz.underlying3) (Jz (by decide) (Fo Tryz.isAgg3 rfl) (Fo Tryz.isAgg3 rfl) (Mf Tryz.underlying3) (Jz (by decide) (Fo Tryz.isAgg9 rfl) (Fo Tryz.isAgg9 rfl) (Na Tryz.underlying9) (Jz (by decide) (Fo Tryz.isAgg3 rfl) (Fo Tryz.isAgg3 rfl) (Mf Tryz.underlying3) BR)))))))))))
theorem rn_eql_38 {a : Act} {w : World} {x y : Operand} {u ty : TypeId} {m n : Dt} (hx : a.eval x = .agg (Dt.enc m).toArray) (hy : a.eval y = .agg (Dt.enc n).toArray) : Rn Tryz.prog a w (.binOp .eql 38 x y u) ty (.bool (decide (m = n))) :=
  BS 2 (by kernel_rfl) (fun w=>eq_38 _ m n w) rfl hx hy
theorem JK {a : Act} {w : World} {x y : Operand} {u ty : TypeId} {m n : Dt} (hx : a.eval x = .agg (Dt.enc m).toArray) (hy : a.eval y = .agg (Dt.enc n).toArray) : Rn Tryz.prog a w (.binOp .neq 38 x y u) ty (.bool (!decide (m = n))) :=
  BT 2 (by kernel_rfl) (fun w=>eq_38 _ m n w) rfl hx hy
theorem TJ (dd : Nat) (x y : Ep) (w : World) : (Op.equalIn (dd + 2) 64 (.agg (Ep.enc x).toArray) (.agg (Ep.enc y).toArray)).run Tryz.prog w = .ok (decide (x = y)) w:=by
  refine Te (dd:=dd + 1) (fs:=(Tryz.prog.fieldsOf 64).toList) (by kernel_rfl) rfl (by kernel_rfl) (?_ : _ = Result.ok (decide (x.Num = y.Num) && (decide (x.Den = y.Den) && true)) w) (by cases x; cases y; simp [Bool.decide_and])
  simp only [Program.fieldsOf,Tryz.underlying64]
  exact (Jz (by decide) (Fo Tryz.isAgg3 rfl) (Fo Tryz.isAgg3 rfl) (Mf Tryz.underlying3) (Jz (by decide) (Fo Tryz.isAgg3 rfl) (Fo Tryz.isAgg3 rfl) (Mf Tryz.underlying3) BR))
theorem rn_eql_64 {a : Act} {w : World} {x y : Operand} {u ty : TypeId} {m n : Ep} (hx : a.eval x = .agg (Ep.enc m).toArray) (hy : a.eval y = .agg (Ep.enc n).toArray) : Rn Tryz.prog a w (.binOp .eql 64 x y u) ty (.bool (decide (m = n))) :=
  BS 2 (by kernel_rfl) (fun w=>TJ _ m n w) rfl hx hy
theorem rn_neq_64 {a : Act} {w : World} {x y : Operand} {u ty : TypeId} {m n : Ep} (hx : a.eval x = .agg (Ep.enc m).toArray) (hy : a.eval y = .agg (Ep.enc n).toArray) : Rn Tryz.prog a w (.binOp .neq 64 x y u) ty (.bool (!decide (m = n))) :=
  BT 2 (by kernel_rfl) (fun w=>TJ _ m n w) rfl hx hy
theorem eq_66 (dd : Nat) (x y : Iw) (w : World) : (Op.equalIn (dd + 3) 66 (.agg (Iw.enc x).toArray) (.agg (Iw.enc y).toArray)).run Tryz.prog w = .ok (decide (x = y)) w:=by
  refine Te (dd:=dd + 2) (fs:=(Tryz.prog.fieldsOf 66).toList) (by kernel_rfl) rfl (by kernel_rfl) (?_ : _ = Result.ok (decide (x.Rank = y.Rank) && (decide (x.Who = y.Who) && (decide (x.Club = y.Club) && (decide (x.Time = y.Time) && (decide (x.Fault = y.Fault) && (decide (x.Points = y.Points) && true)))))) w) (by cases x; cases y; simp [Bool.decide_and])
  simp only [Program.fieldsOf,Tryz.underlying66]
  exact (Jz (by decide) (Fo Tryz.isAgg3 rfl) (Fo Tryz.isAgg3 rfl) (Mf Tryz.underlying3) (Jz (by decide) (Fo Tryz.isAgg9 rfl) (Fo Tryz.isAgg9 rfl) (Na Tryz.underlying9) (Jz (by decide) (Fo Tryz.isAgg9 rfl) (Fo Tryz.isAgg9 rfl) (Na Tryz.underlying9) (Jz (by decide) (Fo Tryz.isAgg3 rfl) (Fo Tryz.isAgg3 rfl) (Mf Tryz.underlying3) (Jz (by decide) (Fo Tryz.isAgg3 rfl) (Fo Tryz.isAgg3 rfl) (Mf Tryz.underlying3) (Jz (by decide) (LT (cs:=Ep.enc x.Points) Tryz.isAgg64 Tryz.sizeOf64 rfl) (LT (cs:=Ep.enc y.Points) Tryz.isAgg64 Tryz.sizeOf64 rfl) (TJ (dd + 0) x.Points y.Points w) BR))))))
theorem rn_eql_66 {a : Act} {w : World} {x y : Operand} {u ty : TypeId} {m n : Iw} (hx : a.eval x = .agg (Iw.enc m).toArray) (hy : a.eval y = .agg (Iw.enc n).toArray) : Rn Tryz.prog a w (.binOp .eql 66 x y u) ty (.bool (decide (m = n))) :=
  BS 3 (by kernel_rfl) (fun w=>eq_66 _ m n w) rfl hx hy
theorem RJ {a : Act} {w : World} {x y : Operand} {u ty : TypeId} {m n : Iw} (hx : a.eval x = .agg (Iw.enc m).toArray) (hy : a.eval y = .agg (Iw.enc n).toArray) : Rn Tryz.prog a w (.binOp .neq 66 x y u) ty (.bool (!decide (m = n))) :=
  BT 3 (by kernel_rfl) (fun w=>eq_66 _ m n w) rfl hx hy
theorem eq_85 (dd : Nat) (x y : Kg) (w : World) : (Op.equalIn (dd + 2) 85 (.agg (Kg.enc x).toArray) (.agg (Kg.enc y).toArray)).run Tryz.prog w = .ok (decide (x = y)) w:=by
  refine Te (dd:=dd + 1) (fs:=(Tryz.prog.fieldsOf 85).toList) (by kernel_rfl) rfl (by kernel_rfl) (?_ : _ = Result.ok (decide (x.At = y.At) && (decide (x.Kind = y.Kind) && (decide (x.Id = y.Id) && (decide (x.Who = y.Who) && (decide (x.Club = y.Club) && (decide (x.Race = y.Race) && (decide (x.Age = y.Age) && (decide (x.Time = y.Time) && true)))))))) w) (by cases x; cases y; simp [Bool.decide_and])
  simp only [Program.fieldsOf,Tryz.underlying85]
  exact (Jz (by decide) (Fo Tryz.isAgg3 rfl) (Fo Tryz.isAgg3 rfl) (Mf Tryz.underlying3) (Jz (by decide) (Fo Tryz.isAgg3 rfl) (Fo Tryz.isAgg3 rfl) (Mf Tryz.underlying3) (Jz (by decide) (Fo Tryz.isAgg9 rfl) (Fo Tryz.isAgg9 rfl) (Na Tryz.underlying9) (Jz (by decide) (Fo Tryz.isAgg9 rfl) (Fo Tryz.isAgg9 rfl) (Na Tryz.underlying9) (Jz (by decide) (Fo Tryz.isAgg9 rfl) (Fo Tryz.isAgg9 rfl) (Na Tryz.underlying9) (Jz (by decide) (Fo Tryz.isAgg9 rfl) (Fo Tryz.isAgg9 rfl) (Na Tryz.underlying9) (Jz (by decide) (Fo Tryz.isAgg3 rfl) (Fo Tryz.isAgg3 rfl) (Mf Tryz.underlying3) (Jz (by decide) (Fo Tryz.isAgg3 rfl) (Fo Tryz.isAgg3 rfl) (Mf Tryz.underlying3) BR))))))))
theorem rn_eql_85 {a : Act} {w : World} {x y : Operand} {u ty : TypeId} {m n : Kg} (hx : a.eval x = .agg (Kg.enc m).toArray) (hy : a.eval y = .agg (Kg.enc n).toArray) : Rn Tryz.prog a w (.binOp .eql 85 x y u) ty (.bool (decide (m = n))) :=
  BS 2 (by kernel_rfl) (fun w=>eq_85 _ m n w) rfl hx hy
theorem RK {a : Act} {w : World} {x y : Operand} {u ty : TypeId} {m n : Kg} (hx : a.eval x = .agg (Kg.enc m).toArray) (hy : a.eval y = .agg (Kg.enc n).toArray) : Rn Tryz.prog a w (.binOp .neq 85 x y u) ty (.bool (!decide (m = n))) :=
  BT 2 (by kernel_rfl) (fun w=>eq_85 _ m n w) rfl hx hy
theorem NY (dd : Nat) (x y : Eg) (w : World) : (Op.equalIn (dd + 2) 142 (.agg (Eg.enc x).toArray) (.agg (Eg.enc y).toArray)).run Tryz.prog w = .ok (decide (x = y)) w:=by
  refine Te (dd:=dd + 1) (fs:=(Tryz.prog.fieldsOf 142).toList) (by kernel_rfl) rfl (by kernel_rfl) (?_ : _ = Result.ok (decide (x.site_ = y.site_) && (decide (x.no_ = y.no_) && true)) w) (by cases x; cases y; simp [Bool.decide_and])
  simp only [Program.fieldsOf,Tryz.underlying142]
  exact (Jz (by decide) (Fo Tryz.isAgg9 rfl) (Fo Tryz.isAgg9 rfl) (Na Tryz.underlying9) (Jz (by decide) (Fo Tryz.isAgg3 rfl) (Fo Tryz.isAgg3 rfl) (Mf Tryz.underlying3) BR))
theorem rn_eql_142 {a : Act} {w : World} {x y : Operand} {u ty : TypeId} {m n : Eg} (hx : a.eval x = .agg (Eg.enc m).toArray) (hy : a.eval y = .agg (Eg.enc n).toArray) : Rn Tryz.prog a w (.binOp .eql 142 x y u) ty (.bool (decide (m = n))) :=
  BS 2 (by kernel_rfl) (fun w=>NY _ m n w) rfl hx hy
theorem rn_neq_142 {a : Act} {w : World} {x y : Operand} {u ty : TypeId} {m n : Eg} (hx : a.eval x = .agg (Eg.enc m).toArray) (hy : a.eval y = .agg (Eg.enc n).toArray) : Rn Tryz.prog a w (.binOp .neq 142 x y u) ty (.bool (!decide (m = n))) :=
  BT 2 (by kernel_rfl) (fun w=>NY _ m n w) rfl hx hy
theorem NZ (dd : Nat) (x y : Ff) (w : World) : (Op.equalIn (dd + 2) 222 (.agg (Ff.enc x).toArray) (.agg (Ff.enc y).toArray)).run Tryz.prog w = .ok (decide (x = y)) w:=by
  refine Te (dd:=dd + 1) (fs:=(Tryz.prog.fieldsOf 222).toList) (by kernel_rfl) rfl (by kernel_rfl) (?_ : _ = Result.ok (decide (x.race_ = y.race_) && (decide (x.who_ = y.who_) && true)) w) (by cases x; cases y; simp [Bool.decide_and])
  simp only [Program.fieldsOf,Tryz.underlying222]
  exact (Jz (by decide) (Fo Tryz.isAgg9 rfl) (Fo Tryz.isAgg9 rfl) (Na Tryz.underlying9) (Jz (by decide) (Fo Tryz.isAgg9 rfl) (Fo Tryz.isAgg9 rfl) (Na Tryz.underlying9) BR))
theorem rn_eql_222 {a : Act} {w : World} {x y : Operand} {u ty : TypeId} {m n : Ff} (hx : a.eval x = .agg (Ff.enc m).toArray) (hy : a.eval y = .agg (Ff.enc n).toArray) : Rn Tryz.prog a w (.binOp .eql 222 x y u) ty (.bool (decide (m = n))) :=
  BS 2 (by kernel_rfl) (fun w=>NZ _ m n w) rfl hx hy
theorem rn_neq_222 {a : Act} {w : World} {x y : Operand} {u ty : TypeId} {m n : Ff} (hx : a.eval x = .agg (Ff.enc m).toArray) (hy : a.eval y = .agg (Ff.enc n).toArray) : Rn Tryz.prog a w (.binOp .neq 222 x y u) ty (.bool (!decide (m = n))) :=
  BT 2 (by kernel_rfl) (fun w=>NZ _ m n w) rfl hx hy
theorem EB : FZ Tryz.prog 142 (fun x=>Value.agg (Eg.enc x).toArray) :=
  LY 2 rfl Tryz.underlying142 (fun em x w=>PC Tryz.underlying142 (by
    intro f hf _
    simp only [List.mem_cons,List.not_mem_nil,or_false] at hf
    rcases hf with rfl | rfl
    · exact ⟨_,fun w=>Fo Tryz.isAgg9 rfl,fun w=>KL Tryz.underlying9⟩
    · exact ⟨_,fun w=>Fo Tryz.isAgg3 rfl,fun w=>chk_int Tryz.underlying3⟩)) NY (fun x=>by simp [Instr.sameBits,Eg.enc,JE])
theorem MJ : FZ Tryz.prog 222 (fun x=>Value.agg (Ff.enc x).toArray) :=
  LY 2 rfl Tryz.underlying222 (fun em x w=>PC Tryz.underlying222 (by
    intro f hf _
    simp only [List.mem_cons,List.not_mem_nil,or_false] at hf
    rcases hf with rfl | rfl
    · exact ⟨_,fun w=>Fo Tryz.isAgg9 rfl,fun w=>KL Tryz.underlying9⟩
    · exact ⟨_,fun w=>Fo Tryz.isAgg9 rfl,fun w=>KL Tryz.underlying9⟩)) NZ (fun x=>by simp [Instr.sameBits,Ff.enc,JE])
theorem bt_25 : Wq Tryz.prog 25 (.agg #[.slice none 0 0,iV 0]) [(0,1),(1,1)]:=⟨_,Tryz.underlying25,Tryz.zeroValue25,fun _=>by kernel_rfl⟩
theorem bt_28 : Wq Tryz.prog 28 (.agg #[.slice none 0 0,iV 0,iV 0]) [(0,1),(1,1),(2,1)]:=⟨_,Tryz.underlying28,Tryz.zeroValue28,fun _=>by kernel_rfl⟩
theorem bt_30 : Wq Tryz.prog 30 (.agg #[iV 0,iV 0,iV 0]) [(0,1),(1,1),(2,1)]:=⟨_,Tryz.underlying30,Tryz.zeroValue30,fun _=>by kernel_rfl⟩
theorem bt_32 : Wq Tryz.prog 32 (.agg #[.slice none 0 0,.slice none 0 0,iV 0,iV 0,iV 0,iV 0,iV 0]) [(0,1),(1,3),(4,3)]:=⟨_,Tryz.underlying32,Tryz.zeroValue32,fun _=>by kernel_rfl⟩
theorem JL : Wq Tryz.prog 38 (.agg #[sV An,iV 0,iV 0,iV 0,sV An,sV An,sV An,iV 0,iV 0,sV An,iV 0]) [(0,1),(1,1),(2,1),(3,1),(4,1),(5,1),(6,1),(7,1),(8,1),(9,1),(10,1)]:=⟨_,Tryz.underlying38,Tryz.zeroValue38,fun _=>by kernel_rfl⟩
theorem TK : Wq Tryz.prog 51 (.agg #[sV An,iV 0,iV 0,iV 0,iV 0,iV 0,iV 0,iV 0]) [(0,1),(1,1),(2,1),(3,1),(4,1),(5,1),(6,1),(7,1)]:=⟨_,Tryz.underlying51,Tryz.zeroValue51,fun _=>by kernel_rfl⟩
theorem TL : Wq Tryz.prog 64 (.agg #[iV 0,iV 0]) [(0,1),(1,1)]:=⟨_,Tryz.underlying64,Tryz.zeroValue64,fun _=>by kernel_rfl⟩
theorem bt_66 : Wq Tryz.prog 66 (.agg #[iV 0,sV An,sV An,iV 0,iV 0,iV 0,iV 0]) [(0,1),(1,1),(2,1),(3,1),(4,1),(5,2)]:=⟨_,Tryz.underlying66,Tryz.zeroValue66,fun _=>by kernel_rfl⟩
theorem bt_71 : Wq Tryz.prog 71 (.agg #[iV 0,iV 0,iV 0]) [(0,1),(1,1),(2,1)]:=⟨_,Tryz.underlying71,Tryz.zeroValue71,fun _=>by kernel_rfl⟩
theorem bt_74 : Wq Tryz.prog 74 (.agg #[sV An,iV 0,iV 0,iV 0,iV 0]) [(0,1),(1,1),(2,1),(3,1),(4,1)]:=⟨_,Tryz.underlying74,Tryz.zeroValue74,fun _=>by kernel_rfl⟩
theorem bt_78 : Wq Tryz.prog 78 (.agg #[sV An,iV 0]) [(0,1),(1,1)]:=⟨_,Tryz.underlying78,Tryz.zeroValue78,fun _=>by kernel_rfl⟩
theorem bt_82 : Wq Tryz.prog 82 (.agg #[sV An,sV An,.slice none 0 0,iV 0,iV 0]) [(0,1),(1,1),(2,1),(3,1),(4,1)]:=⟨_,Tryz.underlying82,Tryz.zeroValue82,fun _=>by kernel_rfl⟩
theorem bt_85 : Wq Tryz.prog 85 (.agg #[iV 0,iV 0,sV An,sV An,sV An,sV An,iV 0,iV 0]) [(0,1),(1,1),(2,1),(3,1),(4,1),(5,1),(6,1),(7,1)]:=⟨_,Tryz.underlying85,Tryz.zeroValue85,fun _=>by kernel_rfl⟩
theorem bt_99 : Wq Tryz.prog 99 (.agg #[.slice none 0 0,.slice none 0 0,iV 0,iV 0,iV 0,iV 0,iV 0,.slice none 0 0]) [(0,7),(7,1)]:=⟨_,Tryz.underlying99,Tryz.zeroValue99,fun _=>by kernel_rfl⟩
theorem bt_109 : Wq Tryz.prog 109 (.agg #[sV An,iV 0,iV 0,iV 0]) [(0,1),(1,1),(2,1),(3,1)]:=⟨_,Tryz.underlying109,Tryz.zeroValue109,fun _=>by kernel_rfl⟩
theorem bt_111 : Wq Tryz.prog 111 (.agg #[sV An,sV An,sV An,iV 0,bV false]) [(0,1),(1,1),(2,1),(3,1),(4,1)]:=⟨_,Tryz.underlying111,Tryz.zeroValue111,fun _=>by kernel_rfl⟩
theorem bt_120 : Wq Tryz.prog 120 (.agg #[sV An,iV 0,iV 0]) [(0,1),(1,2)]:=⟨_,Tryz.underlying120,Tryz.zeroValue120,fun _=>by kernel_rfl⟩
theorem TM : Wq Tryz.prog 142 (.agg #[sV An,iV 0]) [(0,1),(1,1)]:=⟨_,Tryz.underlying142,Tryz.zeroValue142,fun _=>by kernel_rfl⟩
theorem bt_156 : Wq Tryz.prog 156 (.agg #[sV An,iV 0]) [(0,1),(1,1)]:=⟨_,Tryz.underlying156,Tryz.zeroValue156,fun _=>by kernel_rfl⟩
theorem bt_158 : Wq Tryz.prog 158 (.agg #[sV An,iV 0,.slice none 0 0]) [(0,1),(1,1),(2,1)]:=⟨_,Tryz.underlying158,Tryz.zeroValue158,fun _=>by kernel_rfl⟩
theorem bt_166 : Wq Tryz.prog 166 (.agg #[sV An,sV An,sV An,iV 0,bV false,iV 0,iV 0]) [(0,5),(5,2)]:=⟨_,Tryz.underlying166,Tryz.zeroValue166,fun _=>by kernel_rfl⟩
theorem bt_169 : Wq Tryz.prog 169 (.agg #[iV 0,iV 0]) [(0,1),(1,1)]:=⟨_,Tryz.underlying169,Tryz.zeroValue169,fun _=>by kernel_rfl⟩
theorem bt_171 : Wq Tryz.prog 171 (.agg #[sV An,iV 0,iV 0,iV 0]) [(0,1),(1,1),(2,2)]:=⟨_,Tryz.underlying171,Tryz.zeroValue171,fun _=>by kernel_rfl⟩
theorem TN : Wq Tryz.prog 222 (.agg #[sV An,sV An]) [(0,1),(1,1)]:=⟨_,Tryz.underlying222,Tryz.zeroValue222,fun _=>by kernel_rfl⟩
end Go.Proofs.YtjlcjcabljbolaaGreatDoor
