/- The program's tables,by program. -/
import Derived.Test.YtfcmmengcdebnaaGreatDoorTw
import Derived.Test.YtfcmmengcdebnaaGreatDoorArena
import Derived.Test.YtfcmmengcdebnaaGreatDoorProg
namespace Go.Proofs.YtfcmmengcdebnaaGreatDoor
open Go
def Dy.enc (x : Dy) : List Value:=[sV x.Key,iV x.Metres,iV x.Stroke,iV x.Course,iV x.Legs,iV x.Sex,iV x.Young,iV x.Old]
theorem Dy.enc_ok : Enc 8 Dy.enc:=⟨fun _=>rfl,fun _ u h=>by simp [Dy.enc] at h; rcases h with rfl | rfl | rfl | rfl | rfl | rfl | rfl | rfl <;> rfl⟩
def Sy.enc (x : Sy) : List Value:=[iV x.Size,iV x.Many,iV x.Reserves]
theorem Sy.enc_ok : Enc 3 Sy.enc:=⟨fun _=>rfl,fun _ u h=>by simp [Sy.enc] at h; rcases h with rfl | rfl | rfl <;> rfl⟩
def Dk.enc (x : Dk) : List Value:=[sV x.Site,iV x.No,iV x.At,iV x.Kind,sV x.Who,sV x.Club,sV x.Race,iV x.Time,iV x.Fault,sV x.Of,iV x.Other]
theorem Dk.enc_ok : Enc 11 Dk.enc:=⟨fun _=>rfl,fun _ u h=>by simp [Dk.enc] at h; rcases h with rfl | rfl | rfl | rfl | rfl | rfl | rfl | rfl | rfl | rfl | rfl <;> rfl⟩
def Eo.enc (x : Eo) : List Value:=[sV x.site_,iV x.no_]
theorem Eo.enc_ok : Enc 2 Eo.enc:=⟨fun _=>rfl,fun _ u h=>by simp [Eo.enc] at h; rcases h with rfl | rfl <;> rfl⟩
def Kj.enc (x : Kj) : List Go.Value:=[sV x.Name,sV x.Value]
theorem Kj.enc_ok : Enc 2 Kj.enc:=⟨fun _=>rfl,fun _ u h=>by simp [Kj.enc] at h; rcases h with rfl | rfl <;> rfl⟩
def Gq.enc (x : Gq) : List Value:=[sV x.Who,iV x.Time]
theorem Gq.enc_ok : Enc 2 Gq.enc:=⟨fun _=>rfl,fun _ u h=>by simp [Gq.enc] at h; rcases h with rfl | rfl <;> rfl⟩
def Em.enc (x : Em) : List Value:=[iV x.Num,iV x.Den]
theorem Em.enc_ok : Enc 2 Em.enc:=⟨fun _=>rfl,fun _ u h=>by simp [Em.enc] at h; rcases h with rfl | rfl <;> rfl⟩
def Ic.enc (x : Ic) : List Value:=[iV x.Rank,sV x.Who,sV x.Club,iV x.Time,iV x.Fault,iV x.Points.Num,iV x.Points.Den]
theorem Ic.enc_ok : Enc 7 Ic.enc:=⟨fun _=>rfl,fun _ u h=>by simp [Ic.enc] at h; rcases h with rfl | rfl | rfl | rfl | rfl | rfl | rfl <;> rfl⟩
def Dq.enc (x : Dq) : List Value:=[sV x.Who,iV x.Rank,iV x.Time,iV x.Fault]
theorem Dq.enc_ok : Enc 4 Dq.enc:=⟨fun _=>rfl,fun _ u h=>by simp [Dq.enc] at h; rcases h with rfl | rfl | rfl | rfl <;> rfl⟩
def Dm.enc (x : Dm) : List Value:=[sV x.Race,sV x.Who,sV x.Club,iV x.Rank,bV x.Relay]
theorem Dm.enc_ok : Enc 5 Dm.enc:=⟨fun _=>rfl,fun _ u h=>by simp [Dm.enc] at h; rcases h with rfl | rfl | rfl | rfl | rfl <;> rfl⟩
def Fh.enc (x : Fh) : List Value:=[sV x.race_,sV x.who_]
theorem Fh.enc_ok : Enc 2 Fh.enc:=⟨fun _=>rfl,fun _ u h=>by simp [Fh.enc] at h; rcases h with rfl | rfl <;> rfl⟩
def Km.enc (x : Km) : List Value:=[sV x.Key,iV x.Points.Num,iV x.Points.Den]
theorem Km.enc_ok : Enc 3 Km.enc:=⟨fun _=>rfl,fun _ u h=>by simp [Km.enc] at h; rcases h with rfl | rfl | rfl <;> rfl⟩
def Ds.enc (x : Ds) : List Value:=[sV x.x_.Race,sV x.x_.Who,sV x.x_.Club,iV x.x_.Rank,bV x.x_.Relay,iV x.points_.Num,iV x.points_.Den]
theorem Ds.enc_ok : Enc 7 Ds.enc:=⟨fun _=>rfl,fun _ u h=>by simp [Ds.enc] at h; rcases h with rfl | rfl | rfl | rfl | rfl | rfl | rfl <;> rfl⟩
def Mt.enc (x : Mt) : List Value:=[iV x.Year,iV x.Month,iV x.Day]
theorem Mt.enc_ok : Enc 3 Mt.enc:=⟨fun _=>rfl,fun _ u h=>by simp [Mt.enc] at h; rcases h with rfl | rfl | rfl <;> rfl⟩
def Ns.enc (x : Ns) : List Value:=[sV x.Key,iV x.Heats,iV x.Long,iV x.Gap,iV x.Break]
theorem Ns.enc_ok : Enc 5 Ns.enc:=⟨fun _=>rfl,fun _ u h=>by simp [Ns.enc] at h; rcases h with rfl | rfl | rfl | rfl | rfl <;> rfl⟩
def Tu.enc (x : Tu) : List Value:=[iV x.From,iV x.To]
theorem Tu.enc_ok : Enc 2 Tu.enc:=⟨fun _=>rfl,fun _ u h=>by simp [Tu.enc] at h; rcases h with rfl | rfl <;> rfl⟩
def Ks.enc (x : Ks) : List Value:=[sV x.Item,iV x.Heat,iV x.Time.From,iV x.Time.To]
theorem Ks.enc_ok : Enc 4 Ks.enc:=⟨fun _=>rfl,fun _ u h=>by simp [Ks.enc] at h; rcases h with rfl | rfl | rfl | rfl <;> rfl⟩
def Rp.enc (x : Rp) : List Value:=[sV x.Race,iV x.Time]
theorem Rp.enc_ok : Enc 2 Rp.enc:=⟨fun _=>rfl,fun _ u h=>by simp [Rp.enc] at h; rcases h with rfl | rfl <;> rfl⟩
def Kk.enc (x : Kk) : List Value:=[iV x.At,iV x.Kind,sV x.Id,sV x.Who,sV x.Club,sV x.Race,iV x.Age,iV x.Time]
theorem Kk.enc_ok : Enc 8 Kk.enc:=⟨fun _=>rfl,fun _ u h=>by simp [Kk.enc] at h; rcases h with rfl | rfl | rfl | rfl | rfl | rfl | rfl | rfl <;> rfl⟩
structure R28 where
  mk ::
  (Points : RS)
  (Relay : Int)
  (Most : Int)
def R28.enc (x : R28) : List Value:=[x.Points.val,iV x.Relay,iV x.Most]
theorem R28.enc_ok : Enc 3 R28.enc:=⟨fun _=>rfl,fun x u h=>by
    simp only [R28.enc,List.mem_cons,List.not_mem_nil,or_false] at h
    rcases h with rfl | rfl | rfl
    · exact x.Points.property
    · exact rfl
    · exact rfl⟩
def Xy (φ : View) (x : Kr) (r : R28) : Prop:=∃ u1 : RS,r = ⟨u1,x.Relay,x.Most⟩ ∧ Slc φ 1 u1.val (x.Points.map eInt)
theorem Yr {φ ψ : View} (l : View.le φ ψ) (x : Kr) (r : R28) (h : Xy φ x r) : Xy ψ x r:=by
  obtain ⟨u1,e,h1⟩:=h
  exact ⟨u1,e,h1.mono l⟩
theorem rels_28 {φ ψ : View} (l : View.le φ ψ) {xs : List Kr} {rs : List R28} (h : Lh (Xy φ) xs rs) : Lh (Xy ψ) xs rs:=h.chg (Yr l)
structure R32 where
  mk ::
  (Races : RS)
  (Table : R28)
  (Final : Sy)
def R32.enc (x : R32) : List Value:=[x.Races.val] ++ R28.enc x.Table ++ [iV x.Final.Size,iV x.Final.Many,iV x.Final.Reserves]
theorem R32.enc_ok : Enc 7 R32.enc:=⟨fun x=>by simp [R32.enc,R28.enc_ok.len],fun x u h=>by
    simp only [R32.enc,List.mem_append,List.mem_cons,List.not_mem_nil,or_false] at h
    first
    | (rcases h with (h | h) | h
       · rcases h with rfl
         · exact x.Races.property
       · exact R28.enc_ok.one _ u h
       · rcases h with rfl | rfl | rfl
         · exact rfl
         · exact rfl
         · exact rfl)⟩
def Rk (φ : View) (x : Iw) (r : R32) : Prop:=∃ u1 : RS,∃ u2 : R28,r = ⟨u1,u2,x.Final⟩ ∧ Slc φ 8 u1.val (x.Races.map Dy.enc) ∧ Xy φ x.Table u2
theorem Ys {φ ψ : View} (l : View.le φ ψ) (x : Iw) (r : R32) (h : Rk φ x r) : Rk ψ x r:=by
  obtain ⟨u1,u2,e,h1,h2⟩:=h
  exact ⟨u1,u2,e,h1.mono l,Yr l _ _ h2⟩
theorem rels_32 {φ ψ : View} (l : View.le φ ψ) {xs : List Iw} {rs : List R32} (h : Lh (Rk φ) xs rs) : Lh (Rk ψ) xs rs:=h.chg (Ys l)
structure EM where
  mk ::
  (p_ : R32)
  (deeds_ : RS)
def EM.enc (x : EM) : List Value:=R32.enc x.p_ ++ [x.deeds_.val]
theorem EM.enc_ok : Enc 8 EM.enc:=⟨fun x=>by simp [EM.enc,R32.enc_ok.len],fun x u h=>by
    simp only [EM.enc,List.mem_append,List.mem_cons,List.not_mem_nil,or_false] at h
    first
    | (rcases h with h | h
       · exact R32.enc_ok.one _ u h
       · rcases h with rfl
         · exact x.deeds_.property)⟩
def AA (φ : View) (x : Kg) (r : EM) : Prop:=∃ u1 : R32,∃ u2 : RS,r = ⟨u1,u2⟩ ∧ Rk φ x.p_ u1 ∧ Slc φ 11 u2.val (x.deeds_.map Dk.enc)
theorem Pt {φ ψ : View} (l : View.le φ ψ) (x : Kg) (r : EM) (h : AA φ x r) : AA ψ x r:=by
  obtain ⟨u1,u2,e,h1,h2⟩:=h
  exact ⟨u1,u2,e,Ys l _ _ h1,h2.mono l⟩
theorem rels_112 {φ ψ : View} (l : View.le φ ψ) {xs : List Kg} {rs : List EM} (h : Lh (AA φ) xs rs) : Lh (AA ψ) xs rs:=h.chg (Pt l)
structure Sq where
  mk ::
  (Who : ByteArray)
  (Fault : Int)
  (Reports : RS)
def Sq.enc (x : Sq) : List Value:=[sV x.Who,iV x.Fault,x.Reports.val]
theorem Sq.enc_ok : Enc 3 Sq.enc:=⟨fun _=>rfl,fun x u h=>by
    simp only [Sq.enc,List.mem_cons,List.not_mem_nil,or_false] at h
    rcases h with rfl | rfl | rfl
    · exact rfl
    · exact rfl
    · exact x.Reports.property⟩
def Uu (φ : View) (x : Ii) (r : Sq) : Prop:=∃ u1 : RS,r = ⟨x.Who,x.Fault,u1⟩ ∧ Slc φ 1 u1.val (x.Reports.map CS)
theorem LL {φ ψ : View} (l : View.le φ ψ) (x : Ii) (r : Sq) (h : Uu φ x r) : Uu ψ x r:=by
  obtain ⟨u1,e,h1⟩:=h
  exact ⟨u1,e,h1.mono l⟩
theorem IC {φ ψ : View} (l : View.le φ ψ) {xs : List Ii} {rs : List Sq} (h : Lh (Uu φ) xs rs) : Lh (Uu ψ) xs rs:=h.chg (LL l)
def Yt (φ : View) (x : (List Dm)) (r : RS) : Prop:=Slc φ 5 r.val (x.map Dm.enc)
theorem LM {φ ψ : View} (l : View.le φ ψ) (x : (List Dm)) (r : RS) (h : Yt φ x r) : Yt ψ x r:=Slc.mono h l
theorem EN {φ ψ : View} (l : View.le φ ψ) {xs : List (List Dm)} {rs : List RS} (h : Lh (Yt φ) xs rs) : Lh (Yt ψ) xs rs:=h.chg (LM l)
structure R91 where
  mk ::
  (Key : ByteArray)
  (Race : ByteArray)
  (Clubs : RS)
  (Young : Int)
  (Old : Int)
def R91.enc (x : R91) : List Value:=[sV x.Key,sV x.Race,x.Clubs.val,iV x.Young,iV x.Old]
theorem R91.enc_ok : Enc 5 R91.enc:=⟨fun _=>rfl,fun x u h=>by
    simp only [R91.enc,List.mem_cons,List.not_mem_nil,or_false] at h
    rcases h with rfl | rfl | rfl | rfl | rfl
    · exact rfl
    · exact rfl
    · exact x.Clubs.property
    · exact rfl
    · exact rfl⟩
def BH (φ : View) (x : Uk) (r : R91) : Prop:=∃ u1 : RS,r = ⟨x.Key,x.Race,u1,x.Young,x.Old⟩ ∧ Slc φ 1 u1.val (x.Clubs.map CS)
theorem ND {φ ψ : View} (l : View.le φ ψ) (x : Uk) (r : R91) (h : BH φ x r) : BH ψ x r:=by
  obtain ⟨u1,e,h1⟩:=h
  exact ⟨u1,e,h1.mono l⟩
theorem QI {φ ψ : View} (l : View.le φ ψ) {xs : List Uk} {rs : List R91} (h : Lh (BH φ) xs rs) : Lh (BH ψ) xs rs:=h.chg (ND l)
theorem Tryz.mixed : Tryz.prog.follows .mixedOrders = true:=by kernel_rfl
theorem Pf : SlT Tryz.prog 22 3 1 8:=Sw (z:=(iV 0)) Tryz.underlying22 Tryz.sizeOf3 (by kernel_rfl) rfl
theorem Un : SlT Tryz.prog 26 42 8 72:=Sw (z:=(.agg #[sV An,iV 0,iV 0,iV 0,iV 0,iV 0,iV 0,iV 0])) Tryz.underlying26 Tryz.sizeOf42 (by kernel_rfl) rfl
theorem Nj : SlT Tryz.prog 34 101 11 128:=Sw (z:=(.agg #[sV An,iV 0,iV 0,iV 0,sV An,sV An,sV An,iV 0,iV 0,sV An,iV 0])) Tryz.underlying34 Tryz.sizeOf101 (by kernel_rfl) rfl
theorem sl_37 : SlT Tryz.prog 37 118 2 32:=Sw (z:=(.agg #[sV An,sV An])) Tryz.underlying37 Tryz.sizeOf118 (by kernel_rfl) rfl
theorem DE : SlT Tryz.prog 43 56 2 24:=Sw (z:=(.agg #[sV An,iV 0])) Tryz.underlying43 Tryz.sizeOf56 (by kernel_rfl) rfl
theorem GL : SlT Tryz.prog 46 53 7 72:=Sw (z:=(.agg #[iV 0,sV An,sV An,iV 0,iV 0,iV 0,iV 0])) Tryz.underlying46 Tryz.sizeOf53 (by kernel_rfl) rfl
theorem sl_73 : SlT Tryz.prog 73 38 1 8:=Sw (z:=(iV 0)) Tryz.underlying73 Tryz.sizeOf38 (by kernel_rfl) rfl
theorem NE : SlT Tryz.prog 82 81 5 48:=Sw (z:=(.agg #[sV An,iV 0,iV 0,iV 0,iV 0])) Tryz.underlying82 Tryz.sizeOf81 (by kernel_rfl) rfl
theorem KM : SlT Tryz.prog 86 85 2 24:=Sw (z:=(.agg #[sV An,iV 0])) Tryz.underlying86 Tryz.sizeOf85 (by kernel_rfl) rfl
theorem Zd : SlT Tryz.prog 87 9 1 16:=Sw (z:=(sV An)) Tryz.underlying87 Tryz.sizeOf9 (by kernel_rfl) rfl
theorem KN : SlT Tryz.prog 92 91 5 72:=Sw (z:=(.agg #[sV An,sV An,.slice none 0 0,iV 0,iV 0])) Tryz.underlying92 Tryz.sizeOf91 (by kernel_rfl) rfl
theorem Sb : SlT Tryz.prog 121 127 4 40:=Sw (z:=(.agg #[sV An,iV 0,iV 0,iV 0])) Tryz.underlying121 Tryz.sizeOf127 (by kernel_rfl) rfl
theorem Nn : SlT Tryz.prog 125 129 5 64:=Sw (z:=(.agg #[sV An,sV An,sV An,iV 0,bV false])) Tryz.underlying125 Tryz.sizeOf129 (by kernel_rfl) rfl
theorem OY : SlT Tryz.prog 133 138 3 32:=Sw (z:=(.agg #[sV An,iV 0,iV 0])) Tryz.underlying133 Tryz.sizeOf138 (by kernel_rfl) rfl
theorem LN : SlT Tryz.prog 141 179 4 40:=Sw (z:=(.agg #[sV An,iV 0,iV 0,iV 0])) Tryz.underlying141 Tryz.sizeOf179 (by kernel_rfl) rfl
theorem DQ : SlT Tryz.prog 164 166 3 48:=Sw (z:=(.agg #[sV An,iV 0,.slice none 0 0])) Tryz.underlying164 Tryz.sizeOf166 (by kernel_rfl) rfl
theorem BI : SlT Tryz.prog 171 174 7 80:=Sw (z:=(.agg #[sV An,sV An,sV An,iV 0,bV false,iV 0,iV 0])) Tryz.underlying171 Tryz.sizeOf174 (by kernel_rfl) rfl
theorem AB : SlT Tryz.prog 198 125 1 24:=Sw (z:=(.slice none 0 0)) Tryz.underlying198 Tryz.sizeOf125 (by kernel_rfl) rfl
theorem HP : Lq Tryz.prog 25 0 0:=⟨_,_,_,Tryz.underlying25,rfl,Tryz.sizeOf22,rfl,rfl⟩
theorem EO : Lq Tryz.prog 25 1 1:=⟨_,_,_,Tryz.underlying25,rfl,Tryz.sizeOf3,rfl,rfl⟩
theorem AC : Lq Tryz.prog 28 0 0:=⟨_,_,_,Tryz.underlying28,rfl,Tryz.sizeOf22,rfl,rfl⟩
theorem QJ : Lq Tryz.prog 28 1 1:=⟨_,_,_,Tryz.underlying28,rfl,Tryz.sizeOf3,rfl,rfl⟩
theorem LO : Lq Tryz.prog 28 2 2:=⟨_,_,_,Tryz.underlying28,rfl,Tryz.sizeOf3,rfl,rfl⟩
theorem fa_30_0 : Lq Tryz.prog 30 0 0:=⟨_,_,_,Tryz.underlying30,rfl,Tryz.sizeOf3,rfl,rfl⟩
theorem fa_30_1 : Lq Tryz.prog 30 1 1:=⟨_,_,_,Tryz.underlying30,rfl,Tryz.sizeOf3,rfl,rfl⟩
theorem fa_30_2 : Lq Tryz.prog 30 2 2:=⟨_,_,_,Tryz.underlying30,rfl,Tryz.sizeOf3,rfl,rfl⟩
theorem Xo : Lq Tryz.prog 32 0 0:=⟨_,_,_,Tryz.underlying32,rfl,Tryz.sizeOf26,rfl,rfl⟩
theorem QK : Lq Tryz.prog 32 1 1:=⟨_,_,_,Tryz.underlying32,rfl,Tryz.sizeOf28,rfl,rfl⟩
theorem fa_32_2 : Lq Tryz.prog 32 2 4:=⟨_,_,_,Tryz.underlying32,rfl,Tryz.sizeOf30,rfl,rfl⟩
theorem Tx : Lq Tryz.prog 42 0 0:=⟨_,_,_,Tryz.underlying42,rfl,Tryz.sizeOf9,rfl,rfl⟩
theorem LP : Lq Tryz.prog 42 1 1:=⟨_,_,_,Tryz.underlying42,rfl,Tryz.sizeOf3,rfl,rfl⟩
theorem LQ : Lq Tryz.prog 42 2 2:=⟨_,_,_,Tryz.underlying42,rfl,Tryz.sizeOf3,rfl,rfl⟩
theorem HQ : Lq Tryz.prog 42 3 3:=⟨_,_,_,Tryz.underlying42,rfl,Tryz.sizeOf3,rfl,rfl⟩
theorem EP : Lq Tryz.prog 42 4 4:=⟨_,_,_,Tryz.underlying42,rfl,Tryz.sizeOf3,rfl,rfl⟩
theorem fa_42_5 : Lq Tryz.prog 42 5 5:=⟨_,_,_,Tryz.underlying42,rfl,Tryz.sizeOf3,rfl,rfl⟩
theorem LR : Lq Tryz.prog 42 6 6:=⟨_,_,_,Tryz.underlying42,rfl,Tryz.sizeOf3,rfl,rfl⟩
theorem LS : Lq Tryz.prog 42 7 7:=⟨_,_,_,Tryz.underlying42,rfl,Tryz.sizeOf3,rfl,rfl⟩
theorem fa_51_0 : Lq Tryz.prog 51 0 0:=⟨_,_,_,Tryz.underlying51,rfl,Tryz.sizeOf3,rfl,rfl⟩
theorem AD : Lq Tryz.prog 53 0 0:=⟨_,_,_,Tryz.underlying53,rfl,Tryz.sizeOf3,rfl,rfl⟩
theorem fa_53_1 : Lq Tryz.prog 53 1 1:=⟨_,_,_,Tryz.underlying53,rfl,Tryz.sizeOf9,rfl,rfl⟩
theorem EQ : Lq Tryz.prog 53 3 3:=⟨_,_,_,Tryz.underlying53,rfl,Tryz.sizeOf3,rfl,rfl⟩
theorem fa_53_4 : Lq Tryz.prog 53 4 4:=⟨_,_,_,Tryz.underlying53,rfl,Tryz.sizeOf3,rfl,rfl⟩
theorem fa_53_5 : Lq Tryz.prog 53 5 5:=⟨_,_,_,Tryz.underlying53,rfl,Tryz.sizeOf51,rfl,rfl⟩
theorem CK : Lq Tryz.prog 56 0 0:=⟨_,_,_,Tryz.underlying56,rfl,Tryz.sizeOf9,rfl,rfl⟩
theorem QL : Lq Tryz.prog 56 1 1:=⟨_,_,_,Tryz.underlying56,rfl,Tryz.sizeOf3,rfl,rfl⟩
theorem Xp : Lq Tryz.prog 78 0 0:=⟨_,_,_,Tryz.underlying78,rfl,Tryz.sizeOf3,rfl,rfl⟩
theorem ER : Lq Tryz.prog 78 1 1:=⟨_,_,_,Tryz.underlying78,rfl,Tryz.sizeOf3,rfl,rfl⟩
theorem LT : Lq Tryz.prog 78 2 2:=⟨_,_,_,Tryz.underlying78,rfl,Tryz.sizeOf3,rfl,rfl⟩
theorem HR : Lq Tryz.prog 81 0 0:=⟨_,_,_,Tryz.underlying81,rfl,Tryz.sizeOf9,rfl,rfl⟩
theorem LU : Lq Tryz.prog 81 1 1:=⟨_,_,_,Tryz.underlying81,rfl,Tryz.sizeOf3,rfl,rfl⟩
theorem LV : Lq Tryz.prog 81 2 2:=⟨_,_,_,Tryz.underlying81,rfl,Tryz.sizeOf3,rfl,rfl⟩
theorem QM : Lq Tryz.prog 81 3 3:=⟨_,_,_,Tryz.underlying81,rfl,Tryz.sizeOf3,rfl,rfl⟩
theorem QO : Lq Tryz.prog 81 4 4:=⟨_,_,_,Tryz.underlying81,rfl,Tryz.sizeOf3,rfl,rfl⟩
theorem HS : Lq Tryz.prog 85 0 0:=⟨_,_,_,Tryz.underlying85,rfl,Tryz.sizeOf9,rfl,rfl⟩
theorem QP : Lq Tryz.prog 85 1 1:=⟨_,_,_,Tryz.underlying85,rfl,Tryz.sizeOf3,rfl,rfl⟩
theorem HT : Lq Tryz.prog 91 0 0:=⟨_,_,_,Tryz.underlying91,rfl,Tryz.sizeOf9,rfl,rfl⟩
theorem QQ : Lq Tryz.prog 91 1 1:=⟨_,_,_,Tryz.underlying91,rfl,Tryz.sizeOf9,rfl,rfl⟩
theorem ES : Lq Tryz.prog 91 2 2:=⟨_,_,_,Tryz.underlying91,rfl,Tryz.sizeOf87,rfl,rfl⟩
theorem LW : Lq Tryz.prog 91 3 3:=⟨_,_,_,Tryz.underlying91,rfl,Tryz.sizeOf3,rfl,rfl⟩
theorem LX : Lq Tryz.prog 91 4 4:=⟨_,_,_,Tryz.underlying91,rfl,Tryz.sizeOf3,rfl,rfl⟩
theorem QR : Lq Tryz.prog 94 0 0:=⟨_,_,_,Tryz.underlying94,rfl,Tryz.sizeOf3,rfl,rfl⟩
theorem HU : Lq Tryz.prog 94 1 1:=⟨_,_,_,Tryz.underlying94,rfl,Tryz.sizeOf3,rfl,rfl⟩
theorem QS : Lq Tryz.prog 94 2 2:=⟨_,_,_,Tryz.underlying94,rfl,Tryz.sizeOf9,rfl,rfl⟩
theorem fa_94_3 : Lq Tryz.prog 94 3 3:=⟨_,_,_,Tryz.underlying94,rfl,Tryz.sizeOf9,rfl,rfl⟩
theorem LY : Lq Tryz.prog 94 4 4:=⟨_,_,_,Tryz.underlying94,rfl,Tryz.sizeOf9,rfl,rfl⟩
theorem QT : Lq Tryz.prog 94 5 5:=⟨_,_,_,Tryz.underlying94,rfl,Tryz.sizeOf9,rfl,rfl⟩
theorem QU : Lq Tryz.prog 94 6 6:=⟨_,_,_,Tryz.underlying94,rfl,Tryz.sizeOf3,rfl,rfl⟩
theorem fa_94_7 : Lq Tryz.prog 94 7 7:=⟨_,_,_,Tryz.underlying94,rfl,Tryz.sizeOf3,rfl,rfl⟩
theorem Pq : Lq Tryz.prog 101 0 0:=⟨_,_,_,Tryz.underlying101,rfl,Tryz.sizeOf9,rfl,rfl⟩
theorem Sc : Lq Tryz.prog 101 1 1:=⟨_,_,_,Tryz.underlying101,rfl,Tryz.sizeOf3,rfl,rfl⟩
theorem Sr : Lq Tryz.prog 101 2 2:=⟨_,_,_,Tryz.underlying101,rfl,Tryz.sizeOf3,rfl,rfl⟩
theorem Ok : Lq Tryz.prog 101 3 3:=⟨_,_,_,Tryz.underlying101,rfl,Tryz.sizeOf3,rfl,rfl⟩
theorem Mq : Lq Tryz.prog 101 4 4:=⟨_,_,_,Tryz.underlying101,rfl,Tryz.sizeOf9,rfl,rfl⟩
theorem Tp : Lq Tryz.prog 101 5 5:=⟨_,_,_,Tryz.underlying101,rfl,Tryz.sizeOf9,rfl,rfl⟩
theorem Re : Lq Tryz.prog 101 6 6:=⟨_,_,_,Tryz.underlying101,rfl,Tryz.sizeOf9,rfl,rfl⟩
theorem Sd : Lq Tryz.prog 101 7 7:=⟨_,_,_,Tryz.underlying101,rfl,Tryz.sizeOf3,rfl,rfl⟩
theorem Uo : Lq Tryz.prog 101 8 8:=⟨_,_,_,Tryz.underlying101,rfl,Tryz.sizeOf3,rfl,rfl⟩
theorem Xa : Lq Tryz.prog 101 9 9:=⟨_,_,_,Tryz.underlying101,rfl,Tryz.sizeOf9,rfl,rfl⟩
theorem Ty : Lq Tryz.prog 101 10 10:=⟨_,_,_,Tryz.underlying101,rfl,Tryz.sizeOf3,rfl,rfl⟩
theorem BJ : Lq Tryz.prog 112 0 0:=⟨_,_,_,Tryz.underlying112,rfl,Tryz.sizeOf32,rfl,rfl⟩
theorem ET : Lq Tryz.prog 112 1 7:=⟨_,_,_,Tryz.underlying112,rfl,Tryz.sizeOf34,rfl,rfl⟩
theorem BK : Lq Tryz.prog 127 0 0:=⟨_,_,_,Tryz.underlying127,rfl,Tryz.sizeOf9,rfl,rfl⟩
theorem BL : Lq Tryz.prog 127 1 1:=⟨_,_,_,Tryz.underlying127,rfl,Tryz.sizeOf3,rfl,rfl⟩
theorem Ze : Lq Tryz.prog 127 2 2:=⟨_,_,_,Tryz.underlying127,rfl,Tryz.sizeOf3,rfl,rfl⟩
theorem NF : Lq Tryz.prog 127 3 3:=⟨_,_,_,Tryz.underlying127,rfl,Tryz.sizeOf3,rfl,rfl⟩
theorem Xb : Lq Tryz.prog 129 0 0:=⟨_,_,_,Tryz.underlying129,rfl,Tryz.sizeOf9,rfl,rfl⟩
theorem Xc : Lq Tryz.prog 129 1 1:=⟨_,_,_,Tryz.underlying129,rfl,Tryz.sizeOf9,rfl,rfl⟩
theorem BM : Lq Tryz.prog 129 2 2:=⟨_,_,_,Tryz.underlying129,rfl,Tryz.sizeOf9,rfl,rfl⟩
theorem Np : Lq Tryz.prog 129 3 3:=⟨_,_,_,Tryz.underlying129,rfl,Tryz.sizeOf3,rfl,rfl⟩
theorem ID : Lq Tryz.prog 129 4 4:=⟨_,_,_,Tryz.underlying129,rfl,Tryz.sizeOf4,rfl,rfl⟩
theorem UI : Lq Tryz.prog 138 0 0:=⟨_,_,_,Tryz.underlying138,rfl,Tryz.sizeOf9,rfl,rfl⟩
theorem UJ : Lq Tryz.prog 138 1 1:=⟨_,_,_,Tryz.underlying138,rfl,Tryz.sizeOf51,rfl,rfl⟩
theorem EU : Lq Tryz.prog 166 0 0:=⟨_,_,_,Tryz.underlying166,rfl,Tryz.sizeOf9,rfl,rfl⟩
theorem NG : Lq Tryz.prog 166 1 1:=⟨_,_,_,Tryz.underlying166,rfl,Tryz.sizeOf3,rfl,rfl⟩
theorem EV : Lq Tryz.prog 174 0 0:=⟨_,_,_,Tryz.underlying174,rfl,Tryz.sizeOf129,rfl,rfl⟩
theorem NH : Lq Tryz.prog 174 1 5:=⟨_,_,_,Tryz.underlying174,rfl,Tryz.sizeOf51,rfl,rfl⟩
theorem UK : Lq Tryz.prog 177 1 1:=⟨_,_,_,Tryz.underlying177,rfl,Tryz.sizeOf3,rfl,rfl⟩
theorem UL : Lq Tryz.prog 179 2 2:=⟨_,_,_,Tryz.underlying179,rfl,Tryz.sizeOf177,rfl,rfl⟩
theorem eq_94 (dd : Nat) (x y : Kk) (w : World) : (Op.equalIn (dd + 2) 94 (.agg (Kk.enc x).toArray) (.agg (Kk.enc y).toArray)).run Tryz.prog w = .ok (decide (x = y)) w:=by
  refine Xm (dd:=dd + 1) (fs:=(Tryz.prog.fieldsOf 94).toList) (by kernel_rfl) rfl (by kernel_rfl) (?_ : _ = Result.ok (decide (x.At = y.At) && (decide (x.Kind = y.Kind) && (decide (x.Id = y.Id) && (decide (x.Who = y.Who) && (decide (x.Club = y.Club) && (decide (x.Race = y.Race) && (decide (x.Age = y.Age) && (decide (x.Time = y.Time) && true)))))))) w) (by cases x; cases y; simp [Bool.decide_and])
  simp only [Program.fieldsOf,Tryz.underlying94]
  exact (Mw (by decide) (Gw Tryz.isAgg3 rfl) (Gw Tryz.isAgg3 rfl) (Pb Tryz.underlying3) (Mw (by decide) (Gw Tryz.isAgg3 rfl) (Gw Tryz.isAgg3 rfl) (Pb Tryz.underlying3) (Mw (by decide) (Gw Tryz.isAgg9 rfl) (Gw Tryz.isAgg9 rfl) (Om Tryz.underlying9) (Mw (by decide) (Gw Tryz.isAgg9 rfl) (Gw Tryz.isAgg9 rfl) (Om Tryz.underlying9) (Mw (by decide) (Gw Tryz.isAgg9 rfl) (Gw Tryz.isAgg9 rfl) (Om Tryz.underlying9) (Mw (by decide) (Gw Tryz.isAgg9 rfl) (Gw Tryz.isAgg9 rfl) (Om Tryz.underlying9) (Mw (by decide) (Gw Tryz.isAgg3 rfl) (Gw Tryz.isAgg3 rfl) (Pb Tryz.underlying3) (Mw (by decide) (Gw Tryz.isAgg3 rfl) (Gw Tryz.isAgg3 rfl) (Pb Tryz.underlying3) HL))))))))
theorem rn_eql_94 {a : Act} {w : World} {x y : Operand} {u ty : TypeId} {m n : Kk} (hx : a.eval x = .agg (Kk.enc m).toArray) (hy : a.eval y = .agg (Kk.enc n).toArray) : Rn Tryz.prog a w (.binOp .eql 94 x y u) ty (.bool (decide (m = n))) :=
  HM 2 (by kernel_rfl) (fun w=>eq_94 _ m n w) rfl hx hy
theorem SU {a : Act} {w : World} {x y : Operand} {u ty : TypeId} {m n : Kk} (hx : a.eval x = .agg (Kk.enc m).toArray) (hy : a.eval y = .agg (Kk.enc n).toArray) : Rn Tryz.prog a w (.binOp .neq 94 x y u) ty (.bool (!decide (m = n))) :=
  HN 2 (by kernel_rfl) (fun w=>eq_94 _ m n w) rfl hx hy
theorem UM (dd : Nat) (x y : Dk) (w : World) : (Op.equalIn (dd + 2) 101 (.agg (Dk.enc x).toArray) (.agg (Dk.enc y).toArray)).run Tryz.prog w = .ok (decide (x = y)) w:=by
  refine Xm (dd:=dd + 1) (fs:=(Tryz.prog.fieldsOf 101).toList) (by kernel_rfl) rfl (by kernel_rfl) (?_ : _ = Result.ok (decide (x.Site = y.Site) && (decide (x.No = y.No) && (decide (x.At = y.At) && (decide (x.Kind = y.Kind) && (decide (x.Who = y.Who) && (decide (x.Club = y.Club) && (decide (x.Race = y.Race) && (decide (x.Time = y.Time) && (decide (x.Fault = y.Fault) && (decide (x.Of = y.Of) && (decide (x.Other = y.Other) && true))))))))))) w) (by cases x; cases y; simp [Bool.decide_and])
  simp only [Program.fieldsOf,Tryz.underlying101]
  exact (Mw (by decide) (Gw Tryz.isAgg9 rfl) (Gw Tryz.isAgg9 rfl) (Om Tryz.underlying9) (Mw (by decide) (Gw Tryz.isAgg3 rfl) (Gw Tryz.isAgg3 rfl) (Pb Tryz.underlying3) (Mw (by decide) (Gw Tryz.isAgg3 rfl) (Gw Tryz.isAgg3 rfl) (Pb Tryz.underlying3) (Mw (by decide) (Gw Tryz.isAgg3 rfl) (Gw Tryz.isAgg3 rfl) (Pb Tryz.underlying3) (Mw (by decide) (Gw Tryz.isAgg9 rfl) (Gw Tryz.isAgg9 rfl) (Om Tryz.underlying9) (Mw (by decide) (Gw Tryz.isAgg9 rfl) (Gw Tryz.isAgg9 rfl) (Om Tryz.underlying9) (Mw (by decide) (Gw Tryz.isAgg9 rfl) (Gw Tryz.isAgg9 rfl) (Om Tryz.underlying9) (Mw (by decide) (Gw Tryz.isAgg3 rfl) (Gw Tryz.isAgg3 rfl) (Pb Tryz.underlying3) (Mw (by decide) (Gw Tryz.isAgg3 rfl) (Gw Tryz.isAgg3 rfl) (Pb Tryz.underlying3) (Mw (by decide) (Gw Tryz.isAgg9 rfl) (Gw Tryz.isAgg9 rfl) (Om Tryz.underlying9) (Mw (by decide) (Gw Tryz.isAgg3 rfl) (Gw Tryz.isAgg3 rfl) (Pb Tryz.underlying3) HL)))))))))))
theorem rn_eql_101 {a : Act} {w : World} {x y : Operand} {u ty : TypeId} {m n : Dk} (hx : a.eval x = .agg (Dk.enc m).toArray) (hy : a.eval y = .agg (Dk.enc n).toArray) : Rn Tryz.prog a w (.binOp .eql 101 x y u) ty (.bool (decide (m = n))) :=
  HM 2 (by kernel_rfl) (fun w=>UM _ m n w) rfl hx hy
theorem IE {a : Act} {w : World} {x y : Operand} {u ty : TypeId} {m n : Dk} (hx : a.eval x = .agg (Dk.enc m).toArray) (hy : a.eval y = .agg (Dk.enc n).toArray) : Rn Tryz.prog a w (.binOp .neq 101 x y u) ty (.bool (!decide (m = n))) :=
  HN 2 (by kernel_rfl) (fun w=>UM _ m n w) rfl hx hy
theorem OZ (dd : Nat) (x y : Eo) (w : World) : (Op.equalIn (dd + 2) 160 (.agg (Eo.enc x).toArray) (.agg (Eo.enc y).toArray)).run Tryz.prog w = .ok (decide (x = y)) w:=by
  refine Xm (dd:=dd + 1) (fs:=(Tryz.prog.fieldsOf 160).toList) (by kernel_rfl) rfl (by kernel_rfl) (?_ : _ = Result.ok (decide (x.site_ = y.site_) && (decide (x.no_ = y.no_) && true)) w) (by cases x; cases y; simp [Bool.decide_and])
  simp only [Program.fieldsOf,Tryz.underlying160]
  exact (Mw (by decide) (Gw Tryz.isAgg9 rfl) (Gw Tryz.isAgg9 rfl) (Om Tryz.underlying9) (Mw (by decide) (Gw Tryz.isAgg3 rfl) (Gw Tryz.isAgg3 rfl) (Pb Tryz.underlying3) HL))
theorem rn_eql_160 {a : Act} {w : World} {x y : Operand} {u ty : TypeId} {m n : Eo} (hx : a.eval x = .agg (Eo.enc m).toArray) (hy : a.eval y = .agg (Eo.enc n).toArray) : Rn Tryz.prog a w (.binOp .eql 160 x y u) ty (.bool (decide (m = n))) :=
  HM 2 (by kernel_rfl) (fun w=>OZ _ m n w) rfl hx hy
theorem rn_neq_160 {a : Act} {w : World} {x y : Operand} {u ty : TypeId} {m n : Eo} (hx : a.eval x = .agg (Eo.enc m).toArray) (hy : a.eval y = .agg (Eo.enc n).toArray) : Rn Tryz.prog a w (.binOp .neq 160 x y u) ty (.bool (!decide (m = n))) :=
  HN 2 (by kernel_rfl) (fun w=>OZ _ m n w) rfl hx hy
theorem PA (dd : Nat) (x y : Fh) (w : World) : (Op.equalIn (dd + 2) 240 (.agg (Fh.enc x).toArray) (.agg (Fh.enc y).toArray)).run Tryz.prog w = .ok (decide (x = y)) w:=by
  refine Xm (dd:=dd + 1) (fs:=(Tryz.prog.fieldsOf 240).toList) (by kernel_rfl) rfl (by kernel_rfl) (?_ : _ = Result.ok (decide (x.race_ = y.race_) && (decide (x.who_ = y.who_) && true)) w) (by cases x; cases y; simp [Bool.decide_and])
  simp only [Program.fieldsOf,Tryz.underlying240]
  exact (Mw (by decide) (Gw Tryz.isAgg9 rfl) (Gw Tryz.isAgg9 rfl) (Om Tryz.underlying9) (Mw (by decide) (Gw Tryz.isAgg9 rfl) (Gw Tryz.isAgg9 rfl) (Om Tryz.underlying9) HL))
theorem rn_eql_240 {a : Act} {w : World} {x y : Operand} {u ty : TypeId} {m n : Fh} (hx : a.eval x = .agg (Fh.enc m).toArray) (hy : a.eval y = .agg (Fh.enc n).toArray) : Rn Tryz.prog a w (.binOp .eql 240 x y u) ty (.bool (decide (m = n))) :=
  HM 2 (by kernel_rfl) (fun w=>PA _ m n w) rfl hx hy
theorem rn_neq_240 {a : Act} {w : World} {x y : Operand} {u ty : TypeId} {m n : Fh} (hx : a.eval x = .agg (Fh.enc m).toArray) (hy : a.eval y = .agg (Fh.enc n).toArray) : Rn Tryz.prog a w (.binOp .neq 240 x y u) ty (.bool (!decide (m = n))) :=
  HN 2 (by kernel_rfl) (fun w=>PA _ m n w) rfl hx hy
theorem EW : GV Tryz.prog 160 (fun x=>Value.agg (Eo.enc x).toArray) :=
  MY 2 rfl Tryz.underlying160 (fun em x w=>QF Tryz.underlying160 (by
    intro f hf _
    simp only [List.mem_cons,List.not_mem_nil,or_false] at hf
    rcases hf with rfl | rfl
    · exact ⟨_,fun w=>Gw Tryz.isAgg9 rfl,fun w=>LK Tryz.underlying9⟩
    · exact ⟨_,fun w=>Gw Tryz.isAgg3 rfl,fun w=>chk_int Tryz.underlying3⟩)) OZ (fun x=>by simp [Instr.sameBits,Eo.enc,KJ])
theorem NI : GV Tryz.prog 240 (fun x=>Value.agg (Fh.enc x).toArray) :=
  MY 2 rfl Tryz.underlying240 (fun em x w=>QF Tryz.underlying240 (by
    intro f hf _
    simp only [List.mem_cons,List.not_mem_nil,or_false] at hf
    rcases hf with rfl | rfl
    · exact ⟨_,fun w=>Gw Tryz.isAgg9 rfl,fun w=>LK Tryz.underlying9⟩
    · exact ⟨_,fun w=>Gw Tryz.isAgg9 rfl,fun w=>LK Tryz.underlying9⟩)) PA (fun x=>by simp [Instr.sameBits,Fh.enc,KJ])
theorem bt_25 : Ww Tryz.prog 25 (.agg #[.slice none 0 0,iV 0]) [(0,1),(1,1)]:=⟨_,Tryz.underlying25,Tryz.zeroValue25,fun _=>by kernel_rfl⟩
theorem bt_28 : Ww Tryz.prog 28 (.agg #[.slice none 0 0,iV 0,iV 0]) [(0,1),(1,1),(2,1)]:=⟨_,Tryz.underlying28,Tryz.zeroValue28,fun _=>by kernel_rfl⟩
theorem bt_30 : Ww Tryz.prog 30 (.agg #[iV 0,iV 0,iV 0]) [(0,1),(1,1),(2,1)]:=⟨_,Tryz.underlying30,Tryz.zeroValue30,fun _=>by kernel_rfl⟩
theorem bt_32 : Ww Tryz.prog 32 (.agg #[.slice none 0 0,.slice none 0 0,iV 0,iV 0,iV 0,iV 0,iV 0]) [(0,1),(1,3),(4,3)]:=⟨_,Tryz.underlying32,Tryz.zeroValue32,fun _=>by kernel_rfl⟩
theorem QV : Ww Tryz.prog 42 (.agg #[sV An,iV 0,iV 0,iV 0,iV 0,iV 0,iV 0,iV 0]) [(0,1),(1,1),(2,1),(3,1),(4,1),(5,1),(6,1),(7,1)]:=⟨_,Tryz.underlying42,Tryz.zeroValue42,fun _=>by kernel_rfl⟩
theorem UN : Ww Tryz.prog 51 (.agg #[iV 0,iV 0]) [(0,1),(1,1)]:=⟨_,Tryz.underlying51,Tryz.zeroValue51,fun _=>by kernel_rfl⟩
theorem bt_53 : Ww Tryz.prog 53 (.agg #[iV 0,sV An,sV An,iV 0,iV 0,iV 0,iV 0]) [(0,1),(1,1),(2,1),(3,1),(4,1),(5,2)]:=⟨_,Tryz.underlying53,Tryz.zeroValue53,fun _=>by kernel_rfl⟩
theorem bt_56 : Ww Tryz.prog 56 (.agg #[sV An,iV 0]) [(0,1),(1,1)]:=⟨_,Tryz.underlying56,Tryz.zeroValue56,fun _=>by kernel_rfl⟩
theorem bt_78 : Ww Tryz.prog 78 (.agg #[iV 0,iV 0,iV 0]) [(0,1),(1,1),(2,1)]:=⟨_,Tryz.underlying78,Tryz.zeroValue78,fun _=>by kernel_rfl⟩
theorem bt_81 : Ww Tryz.prog 81 (.agg #[sV An,iV 0,iV 0,iV 0,iV 0]) [(0,1),(1,1),(2,1),(3,1),(4,1)]:=⟨_,Tryz.underlying81,Tryz.zeroValue81,fun _=>by kernel_rfl⟩
theorem bt_85 : Ww Tryz.prog 85 (.agg #[sV An,iV 0]) [(0,1),(1,1)]:=⟨_,Tryz.underlying85,Tryz.zeroValue85,fun _=>by kernel_rfl⟩
theorem bt_91 : Ww Tryz.prog 91 (.agg #[sV An,sV An,.slice none 0 0,iV 0,iV 0]) [(0,1),(1,1),(2,1),(3,1),(4,1)]:=⟨_,Tryz.underlying91,Tryz.zeroValue91,fun _=>by kernel_rfl⟩
theorem bt_94 : Ww Tryz.prog 94 (.agg #[iV 0,iV 0,sV An,sV An,sV An,sV An,iV 0,iV 0]) [(0,1),(1,1),(2,1),(3,1),(4,1),(5,1),(6,1),(7,1)]:=⟨_,Tryz.underlying94,Tryz.zeroValue94,fun _=>by kernel_rfl⟩
theorem PB : Ww Tryz.prog 101 (.agg #[sV An,iV 0,iV 0,iV 0,sV An,sV An,sV An,iV 0,iV 0,sV An,iV 0]) [(0,1),(1,1),(2,1),(3,1),(4,1),(5,1),(6,1),(7,1),(8,1),(9,1),(10,1)]:=⟨_,Tryz.underlying101,Tryz.zeroValue101,fun _=>by kernel_rfl⟩
theorem bt_112 : Ww Tryz.prog 112 (.agg #[.slice none 0 0,.slice none 0 0,iV 0,iV 0,iV 0,iV 0,iV 0,.slice none 0 0]) [(0,7),(7,1)]:=⟨_,Tryz.underlying112,Tryz.zeroValue112,fun _=>by kernel_rfl⟩
theorem bt_118 : Ww Tryz.prog 118 (.agg #[sV An,sV An]) [(0,1),(1,1)]:=⟨_,Tryz.underlying118,Tryz.zeroValue118,fun _=>by kernel_rfl⟩
theorem bt_127 : Ww Tryz.prog 127 (.agg #[sV An,iV 0,iV 0,iV 0]) [(0,1),(1,1),(2,1),(3,1)]:=⟨_,Tryz.underlying127,Tryz.zeroValue127,fun _=>by kernel_rfl⟩
theorem bt_129 : Ww Tryz.prog 129 (.agg #[sV An,sV An,sV An,iV 0,bV false]) [(0,1),(1,1),(2,1),(3,1),(4,1)]:=⟨_,Tryz.underlying129,Tryz.zeroValue129,fun _=>by kernel_rfl⟩
theorem bt_138 : Ww Tryz.prog 138 (.agg #[sV An,iV 0,iV 0]) [(0,1),(1,2)]:=⟨_,Tryz.underlying138,Tryz.zeroValue138,fun _=>by kernel_rfl⟩
theorem UO : Ww Tryz.prog 160 (.agg #[sV An,iV 0]) [(0,1),(1,1)]:=⟨_,Tryz.underlying160,Tryz.zeroValue160,fun _=>by kernel_rfl⟩
theorem bt_166 : Ww Tryz.prog 166 (.agg #[sV An,iV 0,.slice none 0 0]) [(0,1),(1,1),(2,1)]:=⟨_,Tryz.underlying166,Tryz.zeroValue166,fun _=>by kernel_rfl⟩
theorem bt_174 : Ww Tryz.prog 174 (.agg #[sV An,sV An,sV An,iV 0,bV false,iV 0,iV 0]) [(0,5),(5,2)]:=⟨_,Tryz.underlying174,Tryz.zeroValue174,fun _=>by kernel_rfl⟩
theorem bt_177 : Ww Tryz.prog 177 (.agg #[iV 0,iV 0]) [(0,1),(1,1)]:=⟨_,Tryz.underlying177,Tryz.zeroValue177,fun _=>by kernel_rfl⟩
theorem bt_179 : Ww Tryz.prog 179 (.agg #[sV An,iV 0,iV 0,iV 0]) [(0,1),(1,1),(2,2)]:=⟨_,Tryz.underlying179,Tryz.zeroValue179,fun _=>by kernel_rfl⟩
theorem UP : Ww Tryz.prog 240 (.agg #[sV An,sV An]) [(0,1),(1,1)]:=⟨_,Tryz.underlying240,Tryz.zeroValue240,fun _=>by kernel_rfl⟩
end Go.Proofs.YtfcmmengcdebnaaGreatDoor
